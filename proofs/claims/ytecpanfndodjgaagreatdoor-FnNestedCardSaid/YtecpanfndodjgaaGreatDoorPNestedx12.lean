/- Part of the proof;words that it uses. -/
import Derived.Test.YtecpanfndodjgaaGreatDoorPNestedx0
import Derived.Test.YtecpanfndodjgaaGreatDoorPNestedx3
import Derived.Test.YtecpanfndodjgaaGreatDoorPNestedx5
import Derived.Test.YtecpanfndodjgaaGreatDoorPNestedx6
import Derived.Test.YtecpanfndodjgaaGreatDoorPNestedx9
import Derived.Test.YtecpanfndodjgaaGreatDoorPNestedx10
import Derived.Test.YtecpanfndodjgaaGreatDoorPNestedx11
namespace Go.Proofs.YtecpanfndodjgaaGreatDoor.PNested
set_option maxHeartbeats 8000000
set_option maxRecDepth 100000
open Go.RowKit Go.Proofs.YtecpanfndodjgaaGreatDoorW.PrintWords Go.Proofs.YtecpanfndodjgaaGreatDoorW.PrintLast Go.Proofs.YtecpanfndodjgaaGreatDoorW.PrintMore
attribute [local go_sem] jJ jL
set_option linter.unusedVariables false
set_option linter.unusedSimpArgs false
mutual
def dX.l0:Nat → List Int → Int → ByteArray → List (dQ) → Int → Int → Option ((List (dQ)))
 | 0,_,_,_,_,_,_=>none
 | k + 1,x0,x2,x3,x9,x10,x11=>if x11 < x2 then (if 0 ≤ x2 then (if x2 ≤ (x0.length:Int) then ((gY.f k (x0.take (x2:Int).toNat) x11).bind fun t671=>((qo.f x0 x11 t671 x3).bind fun t672=>(if t672 > 0 then (dX.j1 k x0 x2 x3 x9 x10 x11 t671 t672 (decide (x10 ≥ 0))) else (dX.j1 k x0 x2 x3 x9 x10 x11 t671 t672 false)))) else (none)) else (none)) else (if x10 ≥ 0 then (if x9.length < 8796093022208 then (some (x9 ++ [(⟨x10,x2⟩ : dQ)])) else (none)) else (some x9))
def dX.j1:Nat → List Int → Int → ByteArray → List (dQ) → Int → Int → Int → Int → Bool → Option ((List (dQ)))
 | 0,_,_,_,_,_,_,_,_,_=>none
 | k + 1,x0,x2,x3,x9,x10,x11,x12,x13,x34=>if x34 = true then ((pV.f x10 (wrap64 (x11 - 1))).bind fun t673=>(if x9.length < 8796093022208 then (dX.j2 k x0 x2 x3 (x9 ++ [(⟨x10,t673⟩ : dQ)]) x10 x12 x13) else (none))) else (dX.j2 k x0 x2 x3 x9 x10 x12 x13)
def dX.j2:Nat → List Int → Int → ByteArray → List (dQ) → Int → Int → Int → Option ((List (dQ)))
 | 0,_,_,_,_,_,_,_=>none
 | k + 1,x0,x2,x3,x9,x10,x12,x13=>if x13 = 2 then (some x9) else (if x13 = 1 then ((qV.f (wrap64 (x12 + 1)) x2).bind fun t677=>(dX.l0 k x0 x2 x3 x9 t677 (wrap64 (x12 + 1)))) else (dX.l0 k x0 x2 x3 x9 x10 (wrap64 (x12 + 1))))
end
def dX.f (k:Nat) (l0:List Int) (a1:Int) (a2:Int) (a3:ByteArray):Option ((List (dQ))):=dX.l0 k l0 a2 a3 (([]:List (dQ))) (-1) a1
theorem dX.calls (k:Nat) (A0:Option Addr) (c0:Nat) (l0:List Int) (a1:Int) (a2:Int) (a3:ByteArray) (r:List (dQ)) (w:World) (hr0:Kd.C (Kd.int .u8) w A0 l0.length l0) (hc0:l0.length ≤ c0) (h:dX.f k l0 a1 a2 a3 = some r) :
  Calls Tryz.prog 54 #[.slice A0 l0.length c0,.int .i64 a1,.int .i64 a2,.string a3] w fun e w'=>∃ v0_:Value,e = .returned (v0_) ∧ Kd.R lX 90 w' w.heap.size (fun _=>True) v0_ r ∧ Below w.heap.size w w':=by
 have hu90:=Tryz.underlying90;have HR0:=aM hr0;have HC0:=aM hc0;clear hr0 hc0;have HB:=aM (Below.refl w.heap.size w);have H:(dX.l0 k l0 a2 a3 (([]:List (dQ))) (-1) a1) = some r:=h;clear h;obtain ⟨y664,hy664⟩ : ∃ y_:List (dQ),y_ = (([]:List (dQ))):=⟨_,rfl⟩;replace H:(dX.l0 k l0 a2 a3 y664 (-1) a1) = some r:=bg hy664;have Ny664:=aM hy664;clear hy664;have H':=aM H;clear H;go_enter Tryz.func54,Tryz.ntmps54;go_wp2_with (first | ((with_reducible refine bF (N:=14) rfl ?_);refine Kd.fG lX _ 90 ?hg (N:=14) ?hd (xs:=([]:List (dQ))) (inner:=[]) (ok:=fun _=>True) (okp:=fun _=>True) ?hr ?hp (fun _ hk=>hk) trivial (Below.refl _ _) (Nat.le_refl _) (by simp) ?_;(case hd=>rfl);(case hg=>rfl);(case hr=>exact aW);(case hp=>exact (ax.none _ _));intro v665 w5 ho6 hb hg_ hnew_;clear hg_ hnew_;(first | rw [← Ny664.out] at ho6 | (simp only [Int.reduceToNat] at ho6;rw [← Ny664.out] at ho6));have HO666:=aM (Kd.aQ ho6 (aJ bB));replace HB:=aM (au bB hb);clear hb ho6));go_loopg [9,10,11] k (fun kq v9 v10 v11 w'=>∃ (x9_1:List (dQ)) (x10_1:Int) (x11_1:Int),v10 = .int .i64 x10_1 ∧ v11 = .int .i64 x11_1 ∧ ae (dX.l0 kq l0 a2 a3 x9_1 x10_1 x11_1 = some r) ∧ ae (kq ≤ k) ∧ ae (Kd.R lX 90 w' w.heap.size (fun _=>True) v9 x9_1) ∧ ae (Below w.heap.size w w'))
 case atStart=>exact ⟨(y664),((-1)),(a1),bS,bS,H',⟨Nat.le_refl _⟩,⟨bR HO666⟩,⟨bB⟩⟩
 case round =>
  clear H';obtain ⟨x9_1,x10_1,x11_1,rfl,rfl,HA,HK1,HO_9,HB⟩:=hrel
  cases gk with
  | zero=>exact absurd HA.out (by simp [dX.l0])
  | succ k1 =>
   have H:=HA.out;clear HA;simp only [dX.l0] at H;by_cases c7:x11_1 < a2
   ·rw [if_pos c7] at H;have c7b0:=decide_eq_true c7;clear c7;by_cases c8:0 ≤ a2
    ·rw [if_pos c8] at H;have c8b0:=eq_true c8;have c8b1:=decide_eq_true c8;clear c8;by_cases c9:a2 ≤ (l0.length:Int)
     ·rw [if_pos c9] at H;have c9b0:=eq_true c9;have c9b1:=decide_eq_true c9;(try have c9z:=eq_true (show (a2:Int) ≤ (c0:Int) from (by have h_:=HC0.out;omega)));clear c9;replace H:=oB H;obtain ⟨t671,A10,H⟩:=H;try dsimp only at H
      replace H:=oB H;obtain ⟨t672,A11,H⟩:=H;try dsimp only at H
      have HC12:=aM H;clear H;obtain ⟨i013,hi013,_,hsz13,_⟩:=info_parts info5;obtain ⟨hcut13,hA13,hC13⟩:=Ep (P:=Tryz.prog) (Value.int .u8) 0 22 5 .i64 Tryz.underlying22 hi013 hsz13 A0 c0 l0 a2 (pI) (pI) HC0.out;have HR670:=aM (Kd.iQ (h1:=fun _=>rfl) (hA13 _ (Kd.iF HR0.out)));have HC670:=aM hC13;clear hA13 hC13 hi013 hsz13;go_upto_region 7 with (first | ((with_reducible refine gC 79 rfl ?_);refine ou (some 23) rfl rfl Tryz.func79 (by kernel_rfl) rfl #[.slice A0 (l0.take (a2:Int).toNat).length c0,.int .i64 x11_1] rfl (by (try simp only [List.map_toArray,List.map_cons,List.map_nil]);first | done | (rw [show (l0.take (a2:Int).toNat).length = a2.toNat from (by rw [List.length_take];have h_:(a2:Int) ≤ (l0.length:Int):=pI;omega)] <;> rfl) | rfl | (simp only [List.length_drop,List.length_take];rfl)) ?_;(with_reducible refine (gY.calls k1 _ _ (l0.take (a2:Int).toNat) x11_1 t671 _ ?side1 ?side2 A10.out).mono ?_);(case side1=>exact eY HR670.out);(case side2=>exact HC670.out);rintro e w' ⟨rfl,⟨nd,rfl⟩⟩;refine ⟨_,rfl,?_⟩) | ((with_reducible refine gC 80 rfl ?_);refine ah (some 28) Tryz.func80 #[.slice A0 l0.length c0,.int .i64 x11_1,.int .i64 t671,.string a3] ?_;(with_reducible refine (qo.calls _ _ l0 x11_1 t671 a3 t672 _ ?side1 ?side2 A11.out).mono ?_);(case side1=>repeat (first | exact (Kd.fF HR0.out bB) | (with_reducible refine Kd.C_alloc ?_ _) | (with_reducible refine Kd.iw ?_ _) | (with_reducible refine Kd.C_drew ?_)));(case side2=>exact HC0.out);rintro e w' ⟨rfl,⟨nd,rfl⟩⟩;refine ⟨_,rfl,?_⟩));(try simp only [Act.put,List.setIfInBounds_toArray,List.set_cons_zero,List.set_cons_succ]);go_cut [34] (fun v34 wc=>∃ (kq:Nat) (x34_11:Bool),v34 = .bool x34_11 ∧ ae (dX.j1 kq l0 a2 a3 x9_1 x10_1 x11_1 t671 t672 x34_11 = some r) ∧ ae (kq ≤ k1) ∧ ae (Kd.R lX 90 wc w.heap.size (fun _=>True) u9 x9_1) ∧ ae (Below w.heap.size w wc))
      case first =>
       have H:=HC12.out;clear HC12;by_cases c14:t672 > 0
       ·rw [if_pos c14] at H;have c14b0:decide (0 < t672) = true:=decide_eq_true c14;clear c14;(first | rw [c14b0] | (simp only [bV,dh];rw [c14b0]) | skip);have H':=aM H;clear H;go_wp2;go_meet
        case rel=>exact ⟨_,(decide (x10_1 ≥ 0)),bS,H',⟨gW HK1.out⟩,⟨bR HO_9⟩,⟨bB⟩⟩
       rw [if_neg c14] at H;have c14b0:decide (0 < t672) = false:=decide_eq_false c14;clear c14;(first | rw [c14b0] | (simp only [bV,dh];rw [c14b0]) | skip);have H':=aM H;clear H;go_wp2;go_meet
       case rel=>exact ⟨_,(false),bS,H',⟨gW HK1.out⟩,⟨bR HO_9⟩,⟨bB⟩⟩
      case rest =>
       clear HC12;try clear c7
       try clear c7b0
       try clear c8
       try clear c8b0
       try clear c8b1
       try clear c9
       try clear c9b0
       try clear c9b1
       obtain ⟨kq,x34_11,rfl,HA,HJ11,HO_9,HB⟩:=hcut
       cases kq with
       | zero=>exact absurd HA.out (by simp [dX.j1])
       | succ kj11 =>
        have H:=HA.out;clear HA;simp only [dX.j1] at H;have HC15:=aM H;clear H;go_upto_if 34 with (fail);go_cut [9] (fun v9 wc=>∃ (kq:Nat) (x9_14:List (dQ)),ae (dX.j2 kq l0 a2 a3 x9_14 x10_1 t671 t672 = some r) ∧ ae (kq ≤ kj11) ∧ ae (Kd.R lX 90 wc w.heap.size (fun _=>True) v9 x9_14) ∧ ae (Below w.heap.size w wc))
        case first =>
         have H:=HC15.out;clear HC15;by_cases c16:x34_11 = true
         ·subst c16;replace H:((pV.f x10_1 (wrap64 (x11_1 - 1))).bind fun t673=>(if x9_1.length < 8796093022208 then (dX.j2 kj11 l0 a2 a3 (x9_1 ++ [(⟨x10_1,t673⟩ : dQ)]) x10_1 t671 t672) else (none))) = some r:=dS;replace H:=oB H;obtain ⟨t673,A17,H⟩:=H;try dsimp only at H
          by_cases c18:x9_1.length < 8796093022208
          ·rw [if_pos c18] at H;have LMc18:=aM c18;clear c18;obtain ⟨y674,hy674⟩ : ∃ y_:List (dQ),y_ = (x9_1 ++ [(⟨x10_1,t673⟩ : dQ)]):=⟨_,rfl⟩;replace H:(dX.j2 kj11 l0 a2 a3 y674 x10_1 t671 t672) = some r:=bg hy674;have Ny674:=aM hy674;clear hy674;have H':=aM H;clear H;go_wp2_with (first | ((with_reducible refine gC 81 rfl ?_);refine ah (some 40) Tryz.func81 #[.int .i64 x10_1,.int .i64 (wrap64 (x11_1 - 1))] ?_;(with_reducible refine (pV.calls x10_1 (wrap64 (x11_1 - 1)) t673 _ A17.out).mono ?_);rintro e w' ⟨rfl,⟨nd,rfl⟩⟩;refine ⟨_,rfl,?_⟩) | ((with_reducible refine gq (b:=.append) (xs:=#[.tmp 35,.tmp 42]) rfl ?_);at_builtin;refine Kd.kG lX (w0:=w) w.heap.size rfl (.tmp 35) (.tmp 42) 87 90 (.agg #[(.int .i64 0),(.int .i64 0)]) 16 rfl Tryz.underlying87 yI rfl (by decide) (by omega) u9 x9_1 (⟨x10_1,t673⟩ : dQ) [.int .i64 x10_1,.int .i64 t673] (fun _=>True) (fun _=>False) rfl rfl ?aP (fun _ hk=>hk.elim) ?aF ?aO ?aB ?aS ?aL ?_;(case aP=>exact Be _ _ _ (⟨x10_1,t673⟩ : dQ));(case aB=>exact bB);(case aF=>exact (fun _ _=>trivial));(case aO=>exact (bR HO_9));(case aS=>exact (aJ bB));(case aL=>have:=LMc18.out;omega);intro v675 w19 ho hb hg hat;rw [← Ny674.out] at ho;have n0_:=aM hb;have n1_:=aM ho;clear HB;clear HO_9;have HB:=n0_;have HO676:=n1_;clear n0_ n1_;clear ho hb hg hat));go_meet
           case rel=>exact ⟨_,(y674),H',⟨jM HK1.out HJ11.out⟩,⟨bR HO676⟩,⟨bB⟩⟩
          rw [if_neg c18] at H;exact aB H
         replace c16:=Bool.eq_false_iff.mpr c16;subst c16;replace H:(dX.j2 kj11 l0 a2 a3 x9_1 x10_1 t671 t672) = some r:=dP;have H':=aM H;clear H;go_wp2;go_meet
         case rel=>exact ⟨_,(x9_1),H',⟨jM HK1.out HJ11.out⟩,⟨bR HO_9⟩,⟨bB⟩⟩
        case rest =>
         clear HC15;try clear c7
         try clear c7b0
         try clear c8
         try clear c8b0
         try clear c8b1
         try clear c9
         try clear c9b0
         try clear c9b1
         obtain ⟨kq,x9_14,HA,HJ14,HO_9,HB⟩:=hcut
         cases kq with
         | zero=>exact absurd HA.out (by simp [dX.j2])
         | succ kj14 =>
          have H:=HA.out;clear HA;simp only [dX.j2] at H;by_cases c20:t672 = 2
          ·rw [if_pos c20] at H;have c20b0:(t672 == 2) = true:=beq_iff_eq.mpr c20;have c20b1:(t672 != 2) = false:=bne_eq_false_iff_eq.mpr c20;clear c20;obtain rfl:=Option.some.inj H;go_wp2;go_ret;exact ⟨_,bE,bR HO_9,bB⟩
          rw [if_neg c20] at H;have c20b0:(t672 == 2) = false:=beq_eq_false_iff_ne.mpr c20;have c20b1:(t672 != 2) = true:=bne_iff_ne.mpr c20;by_cases c21:t672 = 1
          ·rw [if_pos c21] at H;have c21b0:(t672 == 1) = true:=beq_iff_eq.mpr c21;have c21b1:(t672 != 1) = false:=bne_eq_false_iff_eq.mpr c21;clear c21;replace H:=oB H;obtain ⟨t677,A22,H⟩:=H;try dsimp only at H
           have H':=aM H;clear H;go_wp2_with (first | ((with_reducible refine gC 82 rfl ?_);refine ah (some 52) Tryz.func82 #[.int .i64 (wrap64 (t671 + 1)),.int .i64 a2] ?_;(with_reducible refine (qV.calls (wrap64 (t671 + 1)) a2 t677 _ A22.out).mono ?_);rintro e w' ⟨rfl,⟨nd,rfl⟩⟩;refine ⟨_,rfl,?_⟩));go_roundg kj14
           case measure=>have:=HK1.out;have:=HJ11.out;have:=HJ14.out;omega
           case rel=>exact ⟨(x9_14),(t677),(wrap64 (t671 + 1)),bS,bS,H',⟨lT HK1.out HJ11.out HJ14.out⟩,⟨bR HO_9⟩,⟨bB⟩⟩
          rw [if_neg c21] at H;have c21b0:(t672 == 1) = false:=beq_eq_false_iff_ne.mpr c21;have c21b1:(t672 != 1) = true:=bne_iff_ne.mpr c21;have H':=aM H;clear H;go_wp2;go_roundg kj14
          case measure=>have:=HK1.out;have:=HJ11.out;have:=HJ14.out;omega
          case rel=>exact ⟨(x9_14),(x10_1),(wrap64 (t671 + 1)),bS,bS,H',⟨lT HK1.out HJ11.out HJ14.out⟩,⟨bR HO_9⟩,⟨bB⟩⟩
     rw [if_neg c9] at H;exact aB H
    rw [if_neg c8] at H;exact aB H
   rw [if_neg c7] at H;have c7b0:=decide_eq_false c7;clear c7;by_cases c23:x10_1 ≥ 0
   ·rw [if_pos c23] at H;have c23b0:decide (0 ≤ x10_1) = true:=decide_eq_true c23;clear c23;by_cases c24:x9_1.length < 8796093022208
    ·rw [if_pos c24] at H;have LMc24:=aM c24;clear c24;obtain ⟨y667,hy667⟩ : ∃ y_:List (dQ),y_ = (x9_1 ++ [(⟨x10_1,a2⟩ : dQ)]):=⟨_,rfl⟩;replace H:(some y667) = some r:=bg hy667;have Ny667:=aM hy667;clear hy667;obtain rfl:=Option.some.inj H;go_wp2_with (first | ((with_reducible refine gq (b:=.append) (xs:=#[.tmp 57,.tmp 61]) rfl ?_);at_builtin;refine Kd.kG lX (w0:=w) w.heap.size rfl (.tmp 57) (.tmp 61) 87 90 (.agg #[(.int .i64 0),(.int .i64 0)]) 16 rfl Tryz.underlying87 yI rfl (by decide) (by omega) u9 x9_1 (⟨x10_1,a2⟩ : dQ) [.int .i64 x10_1,.int .i64 a2] (fun _=>True) (fun _=>False) rfl rfl ?aP (fun _ hk=>hk.elim) ?aF ?aO ?aB ?aS ?aL ?_;(case aP=>exact Be _ _ _ (⟨x10_1,a2⟩ : dQ));(case aB=>exact bB);(case aF=>exact (fun _ _=>trivial));(case aO=>exact (bR HO_9));(case aS=>exact (aJ bB));(case aL=>have:=LMc24.out;omega);intro v668 w25 ho hb hg hat;rw [← Ny667.out] at ho;have n0_:=aM hb;have n1_:=aM ho;clear HB;clear HO_9;have HB:=n0_;have HO669:=n1_;clear n0_ n1_;clear ho hb hg hat));go_ret;exact ⟨_,bE,bR HO669,bB⟩
    rw [if_neg c24] at H;exact aB H
   rw [if_neg c23] at H;have c23b0:decide (0 ≤ x10_1) = false:=decide_eq_false c23;clear c23;obtain rfl:=Option.some.inj H;go_wp2;go_ret;exact ⟨_,bE,bR HO_9,bB⟩
mutual
def dJ.j0:Nat → List (aH) → List Int → Int → ByteArray → Int → Bool → Int → Int → Int → Int → Int → Int → Int → Option ((List (aH)))
 | 0,_,_,_,_,_,_,_,_,_,_,_,_,_=>none
 | k + 1,x0,x1,x6,x16,x17,x49,x687000,x687001,x687002,x687003,x687004,x687005,x687006=>if x49 = true then (some x0) else ((dX.f k x1 x687003 x687004 x16).bind fun t691=>(dJ.l0 k x0 x1 x6 x17 t691 0))
def dJ.l0:Nat → List (aH) → List Int → Int → Int → List (dQ) → Int → Option ((List (aH)))
 | 0,_,_,_,_,_,_=>none
 | k + 1,x0,x1,x6,x17,x18,x19=>if x19 < (x18.length:Int) then (if (x0.length:Int) < 8 then (if 0 ≤ x19 then ((dJ.f k x0 x1 ((kz x18 x19).f0) ((kz x18 x19).f1) x17 (wrap64 (x19 + 1)) (wrap64 (x6 + 1))).bind fun t696=>(dJ.l0 k t696 x1 x6 x17 x18 (wrap64 (x19 + 1)))) else (none)) else (some x0)) else (some x0)
def dJ.f:Nat → List (aH) → List Int → Int → Int → Int → Int → Int → Option ((List (aH)))
 | 0,_,_,_,_,_,_,_=>none
 | k + 1,l0,l1,a2,a3,a4,a5,a6=>(oO.f k l1 a2 a3).bind fun bt678=>(if l0.length < 2513169434916 then ((some (l0 ++ [(⟨bt678.1,bt678.2.1,bt678.2.2.1,bt678.2.2.2.1,bt678.2.2.2.2.1,a4,a5⟩ : aH)]:List (aH))).bind fun y687=>(if bt678.1 = 2 then (if a6 ≥ 3 then (dJ.j0 k y687 l1 a6 bt678.2.2.2.2.2.2.2 (l0.length:Int) true bt678.1 bt678.2.1 bt678.2.2.1 bt678.2.2.2.1 bt678.2.2.2.2.1 a4 a5) else ((fC.f (bt678.2.2.2.2.2.2.2.size:Int) 1 20).bind fun t690=>(dJ.j0 k y687 l1 a6 bt678.2.2.2.2.2.2.2 (l0.length:Int) (!t690) bt678.1 bt678.2.1 bt678.2.2.1 bt678.2.2.2.1 bt678.2.2.2.2.1 a4 a5))) else (dJ.j0 k y687 l1 a6 bt678.2.2.2.2.2.2.2 (l0.length:Int) true bt678.1 bt678.2.1 bt678.2.2.1 bt678.2.2.2.1 bt678.2.2.2.2.1 a4 a5))) else (none))
end
def dJ.T12:Bool × List (List Nat × List Nat):=(true,[([],[]),([],[]),([],[]),([],[]),([2,3],[2,3]),([4],[4]),([5],[5]),([],[]),([],[]),([7,8],[7,8]),([9],[9]),([10],[10]),([],[]),([],[]),([13],[13]),([],[]),([15],[15]),([0,1,6,11,12,14,16],[0,1,6,11,12,14,16]),([17,17,0,1,2,3,4,5,6,7,8,9,10,11,12,13,14,15,16,17],[0,17])])
def dJ.vZ:List Nat:=[0,0,0,0,12,28,60,0,0,384,896,1920,0,0,8192,0,32768,131071,262143]
theorem dJ.vw:gm .any (opsOf Tryz.f33 12) = dJ.T12:=by kernel_rfl
theorem dJ.xg:lW dJ.T12.2 dJ.vZ = true:=by kernel_rfl
theorem dJ.calls (k:Nat):∀ (P0_:Nat → Prop) (u9000_:Value) (l0:List (aH)) (A1:Option Addr) (c1:Nat) (l1:List Int) (a2:Int) (a3:Int) (a4:Int) (a5:Int) (a6:Int) (r:List (aH)) (w0 w:World) (hB:Below w0.heap.size w0 w) (ho0:Kd.R k30 30 w w0.heap.size P0_ u9000_ l0) (hr1:∀ W_,Kept w W_ (fun k_=>P0_ k_) → Kd.C (Kd.int .u8) W_ A1 l1.length l1) (hc1:l1.length ≤ c1) (h:dJ.f k l0 l1 a2 a3 a4 a5 a6 = some r),
  Calls Tryz.prog 33 #[u9000_,.slice A1 l1.length c1,.int .i64 a2,.int .i64 a3,.int .i64 a4,.int .i64 a5,.int .i64 a6] w fun e w'=>∃ v0_:Value,e = .returned (v0_) ∧ Kd.R k30 30 w' w0.heap.size (fun k_=>(P0_ k_ ∨ w.heap.size ≤ k_)) v0_ r ∧ Below w0.heap.size w0 w' ∧ Kept w w' (fun k_=>P0_ k_):=by
 induction k using Nat.strongRecOn with
 | _ k ih =>
 intro P0_ u9000_ l0 A1 c1 l1 a2 a3 a4 a5 a6 r w0 w hB ho0 hr1 hc1 h
 cases k with
 | zero=>exact absurd h (by simp [dJ.f])
 | succ k =>
 simp only [dJ.f] at h;have hu30:=Tryz.underlying30;have HO0:=aM (show Kd.R k30 30 w w0.heap.size (fun k_=>(P0_ k_ ∨ w.heap.size ≤ k_)) u9000_ l0 from Kd.aU ho0 (fun k_ hk=>(.inl hk)));have HR1:=aM hr1;have HC1:=aM hc1;clear hr1 hc1;have HK:=aM (Kept.refl w (fun k_=>P0_ k_));have HW0:=aM hB.size;have HB:=aM hB;clear hB;have H:((oO.f k l1 a2 a3).bind fun bt678=>(if l0.length < 2513169434916 then ((some (l0 ++ [(⟨bt678.1,bt678.2.1,bt678.2.2.1,bt678.2.2.2.1,bt678.2.2.2.2.1,a4,a5⟩ : aH)]:List (aH))).bind fun y687=>(if bt678.1 = 2 then (if a6 ≥ 3 then (dJ.j0 k y687 l1 a6 bt678.2.2.2.2.2.2.2 (l0.length:Int) true bt678.1 bt678.2.1 bt678.2.2.1 bt678.2.2.2.1 bt678.2.2.2.2.1 a4 a5) else ((fC.f (bt678.2.2.2.2.2.2.2.size:Int) 1 20).bind fun t690=>(dJ.j0 k y687 l1 a6 bt678.2.2.2.2.2.2.2 (l0.length:Int) (!t690) bt678.1 bt678.2.1 bt678.2.2.1 bt678.2.2.2.1 bt678.2.2.2.2.1 a4 a5))) else (dJ.j0 k y687 l1 a6 bt678.2.2.2.2.2.2.2 (l0.length:Int) true bt678.1 bt678.2.1 bt678.2.2.1 bt678.2.2.2.1 bt678.2.2.2.2.1 a4 a5))) else (none))) = some r:=h;clear h;replace H:=oB H;obtain ⟨⟨t678,t679,t680,t681,t682,t683,t684,t685⟩,A8,H⟩:=H;try dsimp only at H
 by_cases c9:l0.length < 2513169434916
 ·rw [if_pos c9] at H;have LMc9:=aM c9;clear c9;obtain ⟨y687,hy687⟩ : ∃ y_:List (aH),y_ = (l0 ++ [(⟨t678,t679,t680,t681,t682,a4,a5⟩ : aH)]):=⟨_,rfl⟩;replace H:(if t678 = 2 then (if a6 ≥ 3 then (dJ.j0 k y687 l1 a6 t685 (l0.length:Int) true t678 t679 t680 t681 t682 a4 a5) else ((fC.f (t685.size:Int) 1 20).bind fun t690=>(dJ.j0 k y687 l1 a6 t685 (l0.length:Int) (!t690) t678 t679 t680 t681 t682 a4 a5))) else (dJ.j0 k y687 l1 a6 t685 (l0.length:Int) true t678 t679 t680 t681 t682 a4 a5)) = some r:=bg hy687;have Ny687:=aM hy687;clear hy687;have HC10:=aM H;clear H;go_enter Tryz.func33,Tryz.ntmps33;go_upto_region 6 with (first | ((with_reducible refine gC 52 rfl ?_);refine ah (some 24) Tryz.func52 #[.slice A1 l1.length c1,.int .i64 a2,.int .i64 a3] ?_;(with_reducible refine (oO.calls k _ _ l1 a2 a3 t678 t679 t680 t681 t682 t683 t684 t685 _ ?side1 ?side2 A8.out).mono ?_);(case side1=>exact Kd.tX HR1.out bK);(case side2=>exact HC1.out);rintro e w11 ⟨rfl,hb⟩;refine ⟨_,rfl,?_⟩;replace HO0:=aM (Kd.aY (bR HO0) hb);replace HK:=aM (Kept.below (S:=(fun k_=>P0_ k_)) bK hb);replace HB:=aM (au bB hb);(try clear hi)) | ((with_reducible refine bF (N:=15) rfl ?_);(try (refine kQ (by rfl) ?_;dsimp only));refine dW ?hg (N:=15) ?hd (cs:=#[.int .i64 0,.int .i64 0,.int .i64 0,.int .i64 0,.int .i64 0,.int .i64 0,.int .i64 0]) (t:=30) ?hr ?_;(case hd=>rfl);(case hg=>rfl);(case hr=>exact aW);intro gb686 hg w12 hbox hb;replace HO0:=aM (Kd.aY (Kd.sW (bR HO0) gb686 (Nat.le_of_eq hg.symm)) hb);have BK686:=aM hbox;have GW686:=aM ((by rw [hg];exact (by first | exact HK.out.1 | exact (show Kept w _ (fun k_=>P0_ k_) from bK).1):w.heap.size ≤ gb686));replace HK:=aM (Kept.below (S:=(fun k_=>P0_ k_)) bK hb);have GE686:=aM ((dw:w0.heap.size ≤ gb686));replace HB:=aM (au bB hb);clear hb hbox hg;obtain ⟨hcz13_0,hcz13_1,hcz13_2,hcz13_3,hcz13_4,hcz13_5,hcz13_6,hfz13_0,hfz13_1,hfz13_2,hfz13_3,hfz13_4,hfz13_5,hfz13_6⟩:=dY BK686.out) | ((with_reducible refine jF (t:=30) (p:=15) rfl ?_);refine jI (t:=30) (p:=15) (v:=?vo_w14) (w1:=(((((((w12.setCell ⟨gb686,0,none⟩ (.int .i64 t678)).setCell ⟨gb686,1,none⟩ (.int .i64 t679)).setCell ⟨gb686,2,none⟩ (.int .i64 t680)).setCell ⟨gb686,3,none⟩ (.int .i64 t681)).setCell ⟨gb686,4,none⟩ (.int .i64 t682)).setCell ⟨gb686,5,none⟩ (.int .i64 t683)).setCell ⟨gb686,6,none⟩ (.int .i64 t684))) ?hg ?ho ?hn ?hr ?_;(case ho=>rfl);(case hg=>rfl);(case hn=>rfl);(case hr=>exact aW);intro w14 hw;have n0_:ae (Kd.R k30 30 w14 w0.heap.size (fun k_=>(P0_ k_ ∨ w.heap.size ≤ k_) ∧ k_ ≠ gb686) u9000_ l0):=⟨(by rw [hw];exact (by (with_reducible repeat (first | apply Kd.R_alloc | apply Kd.dE | apply Kd.dm));exact Kd.aU (Kd.aK (p:=⟨gb686,6,none⟩) (Kd.aK (p:=⟨gb686,5,none⟩) (Kd.aK (p:=⟨gb686,4,none⟩) (Kd.aK (p:=⟨gb686,3,none⟩) (Kd.aK (p:=⟨gb686,2,none⟩) (Kd.aK (p:=⟨gb686,1,none⟩) (Kd.aK (p:=⟨gb686,0,none⟩) (Kd.aU HO0.out (fun k_ hk=>(⟨hk,hk.2⟩ : _ ∧ k_ ≠ gb686))) (fun _ hk=>hk.2) (.int .i64 t678)) (fun _ hk=>hk.2) (.int .i64 t679)) (fun _ hk=>hk.2) (.int .i64 t680)) (fun _ hk=>hk.2) (.int .i64 t681)) (fun _ hk=>hk.2) (.int .i64 t682)) (fun _ hk=>hk.2) (.int .i64 t683)) (fun _ hk=>hk.2) (.int .i64 t684)) (fun _ hk=>⟨hk.1.1,hk.1.2⟩)))⟩;have n1_:ae (w14.heap[gb686]? = some (.cells #[.int .i64 t678,.int .i64 t679,.int .i64 t680,.int .i64 t681,.int .i64 t682,.int .i64 t683,.int .i64 t684] 30 (0,0))):=⟨(by rw [hw];exact (by (with_reducible repeat (first | refine ak ?_ _ | refine aj ?_ | refine ai ?_ _));refine aI (cs:=#[.int .i64 t678,.int .i64 t679,.int .i64 t680,.int .i64 t681,.int .i64 t682,.int .i64 t683,.int .i64 0]) ?_ 6 _ rfl;(with_reducible repeat (first | refine ak ?_ _ | refine aj ?_ | refine ai ?_ _));refine aI (cs:=#[.int .i64 t678,.int .i64 t679,.int .i64 t680,.int .i64 t681,.int .i64 t682,.int .i64 0,.int .i64 0]) ?_ 5 _ rfl;(with_reducible repeat (first | refine ak ?_ _ | refine aj ?_ | refine ai ?_ _));refine aI (cs:=#[.int .i64 t678,.int .i64 t679,.int .i64 t680,.int .i64 t681,.int .i64 0,.int .i64 0,.int .i64 0]) ?_ 4 _ rfl;(with_reducible repeat (first | refine ak ?_ _ | refine aj ?_ | refine ai ?_ _));refine aI (cs:=#[.int .i64 t678,.int .i64 t679,.int .i64 t680,.int .i64 0,.int .i64 0,.int .i64 0,.int .i64 0]) ?_ 3 _ rfl;(with_reducible repeat (first | refine ak ?_ _ | refine aj ?_ | refine ai ?_ _));refine aI (cs:=#[.int .i64 t678,.int .i64 t679,.int .i64 0,.int .i64 0,.int .i64 0,.int .i64 0,.int .i64 0]) ?_ 2 _ rfl;(with_reducible repeat (first | refine ak ?_ _ | refine aj ?_ | refine ai ?_ _));refine aI (cs:=#[.int .i64 t678,.int .i64 0,.int .i64 0,.int .i64 0,.int .i64 0,.int .i64 0,.int .i64 0]) ?_ 1 _ rfl;(with_reducible repeat (first | refine ak ?_ _ | refine aj ?_ | refine ai ?_ _));refine aI (cs:=#[.int .i64 0,.int .i64 0,.int .i64 0,.int .i64 0,.int .i64 0,.int .i64 0,.int .i64 0]) ?_ 0 _ rfl;(with_reducible repeat (first | refine ak ?_ _ | refine aj ?_ | refine ai ?_ _));exact BK686.out))⟩;have n2_:ae (Kept w w14 (fun k_=>P0_ k_)):=⟨(by rw [hw];exact (jw GW686.out))⟩;have n3_:ae (Below w0.heap.size w0 w14):=⟨(by rw [hw];exact (bG GE686))⟩;clear hw;clear HO0;clear BK686;clear HK;clear HB;have HO0:=n0_;have BK686:=n1_;have HK:=n2_;have HB:=n3_;clear n0_ n1_ n2_ n3_;obtain ⟨hcz15_0,hcz15_1,hcz15_2,hcz15_3,hcz15_4,hcz15_5,hcz15_6,hfz15_0,hfz15_1,hfz15_2,hfz15_3,hfz15_4,hfz15_5,hfz15_6⟩:=dY BK686.out;obtain ⟨Ao16,co16,eo16⟩:=Kd.bn HO0.out;subst eo16) | ((with_reducible refine gq (b:=.append) (xs:=#[.tmp 33,.tmp 35]) rfl ?_);(try (refine kQ (by rfl) ?_;dsimp only));at_builtin;refine Kd.kG k30 (w0:=w0) w0.heap.size rfl (.tmp 33) (.tmp 35) 25 30 (.agg #[(.int .i64 0),(.int .i64 0),(.int .i64 0),(.int .i64 0),(.int .i64 0),(.int .i64 0),(.int .i64 0)]) 56 rfl Tryz.underlying25 info30 rfl (by decide) (by omega) (.slice Ao16 l0.length co16) l0 (⟨t678,t679,t680,t681,t682,a4,a5⟩ : aH) [.int .i64 t678,.int .i64 t679,.int .i64 t680,.int .i64 t681,.int .i64 t682,.int .i64 a4,.int .i64 a5] (fun k_=>(P0_ k_ ∨ w.heap.size ≤ k_) ∧ k_ ≠ gb686) (fun _=>False) rfl aW ?aP (fun _ hk=>hk.elim) ?aF ?aO ?aB ?aS ?aL ?_;(case aP=>exact yL _ _ _ (⟨t678,t679,t680,t681,t682,a4,a5⟩ : aH));(case aB=>exact (bG GE686));(case aF=>exact (fun k_ hk=>⟨(.inr (Nat.le_trans (show Kept w _ (fun k_=>P0_ k_) from jw GW686.out).1 hk)),Kd.rZ (g:=gb686) (o:=.cells #[.int .i64 t678,.int .i64 t679,.int .i64 t680,.int .i64 t681,.int .i64 t682,.int .i64 a4,.int .i64 a5] 30 (0,0)) (by (with_reducible repeat (first | refine ak ?_ _ | refine aj ?_ | refine ai ?_ _));refine aI (cs:=#[.int .i64 t678,.int .i64 t679,.int .i64 t680,.int .i64 t681,.int .i64 t682,.int .i64 a4,.int .i64 t684]) ?_ 6 _ rfl;(with_reducible repeat (first | refine ak ?_ _ | refine aj ?_ | refine ai ?_ _));refine aI (cs:=#[.int .i64 t678,.int .i64 t679,.int .i64 t680,.int .i64 t681,.int .i64 t682,.int .i64 t683,.int .i64 t684]) ?_ 5 _ rfl;(with_reducible repeat (first | refine ak ?_ _ | refine aj ?_ | refine ai ?_ _));exact BK686.out) k_ hk⟩));(case aO=>exact (by (with_reducible repeat (first | apply Kd.R_alloc | apply Kd.dE | apply Kd.dm));exact Kd.aU (Kd.aK (p:=⟨gb686,6,none⟩) (Kd.aK (p:=⟨gb686,5,none⟩) (Kd.aU HO0.out (fun k_ hk=>(⟨hk,hk.2⟩ : _ ∧ k_ ≠ gb686))) (fun _ hk=>hk.2) (.int .i64 a4)) (fun _ hk=>hk.2) (.int .i64 a5)) (fun _ hk=>⟨hk.1.1,hk.1.2⟩)));(case aS=>exact (aJ (bG GE686)));(case aL=>have:=LMc9.out;omega);intro v688 w17 ho hb hg hat;rw [← Ny687.out] at ho;have n0_:=aM (qO (g:=gb686) (o:=.cells #[.int .i64 t678,.int .i64 t679,.int .i64 t680,.int .i64 t681,.int .i64 t682,.int .i64 a4,.int .i64 a5] 30 (0,0)) (by (with_reducible repeat (first | refine ak ?_ _ | refine aj ?_ | refine ai ?_ _));refine aI (cs:=#[.int .i64 t678,.int .i64 t679,.int .i64 t680,.int .i64 t681,.int .i64 t682,.int .i64 a4,.int .i64 t684]) ?_ 6 _ rfl;(with_reducible repeat (first | refine ak ?_ _ | refine aj ?_ | refine ai ?_ _));refine aI (cs:=#[.int .i64 t678,.int .i64 t679,.int .i64 t680,.int .i64 t681,.int .i64 t682,.int .i64 t683,.int .i64 t684]) ?_ 5 _ rfl;(with_reducible repeat (first | refine ak ?_ _ | refine aj ?_ | refine ai ?_ _));exact BK686.out) hg (Kd.qw HO0.out (fun _ hk=>hk.2)));have n1_:=aM hb;have n2_:=aM (Kept.kK (S:=(fun k_=>P0_ k_)) hg (jw GW686.out) (fun k_ e_=>(HO0.out.1 k_ e_).1));have n3_:=aM ho;clear BK686;clear HB;clear HK;clear HO0;have BK686:=n0_;have HB:=n1_;have HK:=n2_;have HO689:=n3_;clear n0_ n1_ n2_ n3_;clear ho hb hg hat));(try simp only [Act.put,List.setIfInBounds_toArray,List.set_cons_zero,List.set_cons_succ]);go_cut [49] (fun v49 wc=>∃ (kq:Nat) (x49_9:Bool),v49 = .bool x49_9 ∧ ae (dJ.j0 kq y687 l1 a6 t685 (l0.length:Int) x49_9 t678 t679 t680 t681 t682 a4 a5 = some r) ∧ ae (kq ≤ k) ∧ ae (Kd.R k30 30 wc w0.heap.size (fun k_=>(P0_ k_ ∨ w.heap.size ≤ k_) ∧ k_ ≠ gb686) v688 y687) ∧ ae (wc.heap[gb686]? = some (.cells #[.int .i64 t678,.int .i64 t679,.int .i64 t680,.int .i64 t681,.int .i64 t682,.int .i64 a4,.int .i64 a5] 30 (0,0))) ∧ ae (Kept w wc (fun k_=>P0_ k_)) ∧ ae (Below w0.heap.size w0 wc))
  case first =>
   have H:=HC10.out;clear HC10;by_cases c18:t678 = 2
   ·rw [if_pos c18] at H;have c18b0:(t678 == 2) = true:=beq_iff_eq.mpr c18;have c18b1:(t678 != 2) = false:=bne_eq_false_iff_eq.mpr c18;clear c18;have HQ_:=aM H;clear H;(first | rw [c18b0] | (simp only [bV,dh];rw [c18b0]) | skip);obtain ⟨hcz20_0,hcz20_1,hcz20_2,hcz20_3,hcz20_4,hcz20_5,hcz20_6,hfz20_0,hfz20_1,hfz20_2,hfz20_3,hfz20_4,hfz20_5,hfz20_6⟩:=dY BK686.out;have H:=HQ_.out;clear HQ_;by_cases c19:a6 ≥ 3
    ·rw [if_pos c19] at H;have c19b0:decide (3 ≤ a6) = true:=decide_eq_true c19;clear c19;have H':=aM H;clear H;(try simp only [c19b0]);go_wp2;go_meet
     case rel=>exact ⟨_,(true),bS,H',⟨jY⟩,⟨bR HO689⟩,⟨bL BK686⟩,⟨jw GW686.out⟩,⟨bG GE686⟩⟩
    rw [if_neg c19] at H;have c19b0:decide (3 ≤ a6) = false:=decide_eq_false c19;clear c19;replace H:=oB H;obtain ⟨t690,A21,H⟩:=H;try dsimp only at H
    have H':=aM H;clear H;(try simp only [c19b0]);go_wp2_with (first | (go_at_call 53;(with_reducible refine (fC.calls (t685.size:Int) 1 20 t690 _ A21.out).mono ?_);rintro e w' ⟨rfl,⟨nd,rfl⟩⟩));go_meet
    case rel=>exact ⟨_,(!t690),bS,H',⟨jY⟩,⟨bR HO689⟩,⟨bL BK686⟩,⟨jw GW686.out⟩,⟨bG GE686⟩⟩
   rw [if_neg c18] at H;have c18b0:(t678 == 2) = false:=beq_eq_false_iff_ne.mpr c18;have c18b1:(t678 != 2) = true:=bne_iff_ne.mpr c18;(first | rw [c18b0] | (simp only [bV,dh];rw [c18b0]) | skip);have H':=aM H;clear H;obtain ⟨hcz23_0,hcz23_1,hcz23_2,hcz23_3,hcz23_4,hcz23_5,hcz23_6,hfz23_0,hfz23_1,hfz23_2,hfz23_3,hfz23_4,hfz23_5,hfz23_6⟩:=dY BK686.out;go_wp2;go_meet
   case rel=>exact ⟨_,(true),bS,H',⟨jY⟩,⟨bR HO689⟩,⟨bL BK686⟩,⟨jw GW686.out⟩,⟨bG GE686⟩⟩
  case rest =>
   clear HC10;try clear c1
   try clear c9
   try clear hcz13_0
   try clear hcz13_1
   try clear hcz13_2
   try clear hcz13_3
   try clear hcz13_4
   try clear hcz13_5
   try clear hcz13_6
   try clear hcz15_0
   try clear hcz15_1
   try clear hcz15_2
   try clear hcz15_3
   try clear hcz15_4
   try clear hcz15_5
   try clear hcz15_6
   try clear hfz13_0
   try clear hfz13_1
   try clear hfz13_2
   try clear hfz13_3
   try clear hfz13_4
   try clear hfz13_5
   try clear hfz13_6
   try clear hfz15_0
   try clear hfz15_1
   try clear hfz15_2
   try clear hfz15_3
   try clear hfz15_4
   try clear hfz15_5
   try clear hfz15_6
   obtain ⟨kq,x49_9,rfl,HA,HJ9,HO_0,BK686,HK,HB⟩:=hcut
   cases kq with
   | zero=>exact absurd HA.out (by simp [dJ.j0])
   | succ kj9 =>
    have H:=HA.out;clear HA;simp only [dJ.j0] at H;by_cases c24:x49_9 = true
    ·subst c24;replace H:(some y687) = some r:=dS;obtain rfl:=Option.some.inj H;go_wp2;go_ret;exact ⟨_,bE,mZ HO_0.out,bG GE686,jw GW686.out⟩
    replace c24:=Bool.eq_false_iff.mpr c24;subst c24;replace H:((dX.f kj9 l1 t681 t682 t685).bind fun t691=>(dJ.l0 kj9 y687 l1 a6 (l0.length:Int) t691 0)) = some r:=dP;replace H:=oB H;obtain ⟨t691,A25,H⟩:=H;try dsimp only at H
    have H':=aM H;clear H;obtain ⟨hcz26_0,hcz26_1,hcz26_2,hcz26_3,hcz26_4,hcz26_5,hcz26_6,hfz26_0,hfz26_1,hfz26_2,hfz26_3,hfz26_4,hfz26_5,hfz26_6⟩:=dY BK686.out;go_wp2_with (first | ((with_reducible refine gC 54 rfl ?_);refine ah (some 57) Tryz.func54 #[.slice A1 l1.length c1,.int .i64 t681,.int .i64 t682,.string t685] ?_;(with_reducible refine (dX.calls kj9 _ _ l1 t681 t682 t685 t691 _ ?side1 ?side2 A25.out).mono ?_);(case side1=>exact Kd.tX HR1.out (jw GW686.out));(case side2=>exact HC1.out);rintro e w27 ⟨v692,rfl,ho0,hb⟩;refine ⟨_,rfl,?_⟩;replace HO_0:=aM (Kd.aY (bR HO_0) hb);have HO693:=aM (Kd.aQ (Kd.wG (M:=fun k_=>(P0_ k_ ∨ w.heap.size ≤ k_)) ho0 (by first | exact HK.out.1 | exact (show Kept w _ (fun k_=>P0_ k_) from jw GW686.out).1) (fun k_ h_=>.inr h_)) (aJ (bG GE686)));replace BK686:=aM (bQ BK686 hb);replace HK:=aM (Kept.below (S:=(fun k_=>P0_ k_)) (jw GW686.out) hb);replace HB:=aM (au (bG GE686) hb);(try clear ho0)));go_loopg [0,19] kj9 (fun kq v0 v19 w'=>∃ (x0_2:List (aH)) (x19_2:Int),v19 = .int .i64 x19_2 ∧ ae (dJ.l0 kq x0_2 l1 a6 (l0.length:Int) t691 x19_2 = some r) ∧ ae (kq ≤ kj9) ∧ ae (Kd.R k30 30 w' w0.heap.size (fun k_=>(P0_ k_ ∨ w.heap.size ≤ k_) ∧ k_ ≠ gb686) v0 x0_2) ∧ ae (Kd.R lX 90 w' w0.heap.size (fun k_=>(P0_ k_ ∨ w.heap.size ≤ k_)) v692 t691) ∧ ae (w'.heap[gb686]? = some (.cells #[.int .i64 t678,.int .i64 t679,.int .i64 t680,.int .i64 t681,.int .i64 t682,.int .i64 a4,.int .i64 a5] 30 (0,0))) ∧ ae (Kept w w' (fun k_=>P0_ k_)) ∧ ae (Below w0.heap.size w0 w'))
    case atStart=>exact ⟨(y687),(0),bS,H',⟨Nat.le_refl _⟩,⟨bR HO_0⟩,⟨mZ HO693.out⟩,⟨bL BK686⟩,⟨jw GW686.out⟩,⟨bG GE686⟩⟩
    case round =>
     clear H';try clear c1
     try clear c9
     try clear c24
     try clear hcz13_0
     try clear hcz13_1
     try clear hcz13_2
     try clear hcz13_3
     try clear hcz13_4
     try clear hcz13_5
     try clear hcz13_6
     try clear hcz15_0
     try clear hcz15_1
     try clear hcz15_2
     try clear hcz15_3
     try clear hcz15_4
     try clear hcz15_5
     try clear hcz15_6
     try clear hcz26_0
     try clear hcz26_1
     try clear hcz26_2
     try clear hcz26_3
     try clear hcz26_4
     try clear hcz26_5
     try clear hcz26_6
     try clear hfz13_0
     try clear hfz13_1
     try clear hfz13_2
     try clear hfz13_3
     try clear hfz13_4
     try clear hfz13_5
     try clear hfz13_6
     try clear hfz15_0
     try clear hfz15_1
     try clear hfz15_2
     try clear hfz15_3
     try clear hfz15_4
     try clear hfz15_5
     try clear hfz15_6
     try clear hfz26_0
     try clear hfz26_1
     try clear hfz26_2
     try clear hfz26_3
     try clear hfz26_4
     try clear hfz26_5
     try clear hfz26_6
     obtain ⟨x0_2,x19_2,rfl,HA,HK2,HO_0,HO_18,BK686,HK,HB⟩:=hrel
     cases gk with
     | zero=>exact absurd HA.out (by simp [dJ.l0])
     | succ k2 =>
      have H:=HA.out;clear HA;simp only [dJ.l0] at H;have HQ_:=aM H;clear H;obtain ⟨Ao32,co32,eo32⟩:=Kd.bn HO_18.out;subst eo32;have H:=HQ_.out;clear HQ_;by_cases c28:x19_2 < (t691.length:Int)
      ·rw [if_pos c28] at H;have c28b0:=decide_eq_true c28;clear c28;(try simp only [c28b0]);have HQ_:=aM H;clear H;obtain ⟨Ao33,co33,eo33⟩:=Kd.bn HO_0.out;subst eo33;have H:=HQ_.out;clear HQ_;by_cases c29:(x0_2.length:Int) < 8
       ·rw [if_pos c29] at H;have c29b0:=decide_eq_true c29;have c29b1:decide (x0_2.length < 8) = true:=decide_eq_true (by omega);clear c29;(try simp only [c29b0,c29b1]);by_cases c30:0 ≤ x19_2
        ·rw [if_pos c30] at H;have c30b0:=decide_eq_true c30;clear c30;replace H:=oB H;obtain ⟨t696,A31,H⟩:=H;try dsimp only at H
         have H':=aM H;clear H;try go_wp2
         replace HO_0:=aM (Kd.dm HO_0.out);replace HO_18:=aM (Kd.dm HO_18.out);replace BK686:=aM (aj BK686.out);replace HK:=aM (Kept.drew HK.out);replace HB:=aM (iP HB.out);have p694:0 ≤ (x19_2:Int):=pI;have q694:x19_2 < (t691.length:Int):=pI;obtain ⟨ad694,e694,hx694_0,hx694_1⟩:=zS (Kd.aV HO_18.out).2.2 x19_2 p694 q694;cases e694;replace p694:=eq_true p694;replace q694:=eq_true q694;have p695:0 ≤ (x19_2:Int):=pI;have q695:x19_2 < (t691.length:Int):=pI;obtain ⟨ad695,e695,hx695_0,hx695_1⟩:=zS (Kd.aV HO_18.out).2.2 x19_2 p695 q695;obtain rfl:ad694 = ad695:=(by injection e695);replace p695:=eq_true p695;replace q695:=eq_true q695;refine mF (n:=19) (S:=fun w'=>w'.cell? (ad694.add ((x19_2).toNat * 2)) = some (.int .i64 ((kz t691 x19_2).f0)) ∧ w'.cell? ⟨(ad694.add ((x19_2).toNat * 2)).block,(ad694.add ((x19_2).toNat * 2)).off + 1,none⟩ = some (.int .i64 ((kz t691 x19_2).f1)) ∧ w'.cell? (ad694.add ((x19_2).toNat * 2)) = some (.int .i64 ((kz t691 x19_2).f0)) ∧ w'.cell? ⟨(ad694.add ((x19_2).toNat * 2)).block,(ad694.add ((x19_2).toNat * 2)).off + 1,none⟩ = some (.int .i64 ((kz t691 x19_2).f1))) (ds:=[]) (ay 19 0) (by kernel_rfl) rfl rfl ⟨hx694_0,hx694_1,hx695_0,hx695_1⟩ (fun hHeld=>?_);refine nz dJ.vw dJ.xg (fun HT_ HW_=>?_);generalize wr.drew = w34 at HO_0 HO_18 BK686 HK HB hx694_0 hx694_1 hx695_0 hx695_1 hHeld ⊢;refine aX (i:=0) (N:=some 69) (ay 19 1) (h:=?_);refine aX (i:=1) (N:=some 70) (ay 19 3) (h:=?_);refine aX (i:=2) (N:=some 71) (ay 19 7) (h:=?_);refine aX (i:=3) (N:=some 72) (ay 19 15) (h:=?_);refine aX (i:=4) (N:=some 73) (ay 19 31) (h:=?_);refine aX (i:=5) (N:=some 74) (ay 19 63) (h:=?_);refine aX (i:=7) (N:=some 76) (ay 19 191) (h:=?_);refine aX (i:=8) (N:=some 77) (ay 19 447) (h:=?_);refine aX (i:=9) (N:=some 78) (ay 19 959) (h:=?_);refine aX (i:=10) (N:=some 79) (ay 19 1983) (h:=?_);refine aX (i:=12) (N:=some 81) (ay 19 6079) (h:=?_);refine aX (i:=13) (N:=some 82) (ay 19 14271) (h:=?_);refine aX (i:=14) (N:=some 83) (ay 19 30655) (h:=?_);refine aX (i:=15) (N:=some 84) (ay 19 63423) (h:=?_);refine aX (i:=16) (N:=some 85) (ay 19 128959) (h:=?_);refine gI (i:=6) (N:=some 75) (v:=?_) (a':=?_) (ay 19 129023) rfl rfl (iD HT_.out HW_.out (by kernel_rfl)) (fun _ _ _ h=>h) (Or.inl ⟨by rfl,?_⟩) hHeld ?_ ?_;rotate_left
         ·rintro w' ⟨s0,s1,s2,s3⟩;go_simp;with_reducible rfl
         rotate_left
         ·simp only [Act.put,List.setIfInBounds_toArray,List.set_cons_zero,List.set_cons_succ,bV,dh];rfl
         refine gI (i:=11) (N:=some 80) (v:=?_) (a':=?_) (ay 19 131071) rfl rfl (iD HT_.out HW_.out (by kernel_rfl)) (fun _ _ _ h=>h) (Or.inl ⟨by rfl,?_⟩) hHeld ?_ ?_;rotate_left
         ·rintro w' ⟨s0,s1,s2,s3⟩;go_simp;with_reducible rfl
         rotate_left
         ·simp only [Act.put,List.setIfInBounds_toArray,List.set_cons_zero,List.set_cons_succ,bV,dh];rfl
         refine fQ (i:=17) (N:=some 86) (ay 19 262143) rfl rfl (fO HT_.out (by kernel_rfl)) (by decide) (fun K hK=>?_);refine rY Tryz.func33 (by kernel_rfl) rfl #[.slice Ao33 x0_2.length co33,.slice A1 l1.length c1,.int .i64 ((kz t691 x19_2).f0),.int .i64 ((kz t691 x19_2).f1),.int .i64 (l0.length:Int),.int .i64 (wrap64 (x19_2 + 1)),.int .i64 (wrap64 (a6 + 1))] (by rfl) rfl rfl bM ?_;with_reducible refine (ih k2 (kP HJ9.out HK2.out) (fun k_=>some k_ = (.slice Ao33 x0_2.length co33:Value).ownBlock) (.slice Ao33 x0_2.length co33) x0_2 _ _ l1 ((kz t691 x19_2).f0) ((kz t691 x19_2).f1) (l0.length:Int) (wrap64 (x19_2 + 1)) (wrap64 (a6 + 1)) t696 w0 _ ?side1 ?side2 ?side3 ?side4 A31.out).mono ?_
         (case side1=>exact wB GE686.out);(case side2=>exact Kd.rW rfl HO_0.out);(case side3=>exact Kd.y8 HR1.out (jw GW686.out) (fun k_ hs_=>(fun e_=>(HO_0.out.1 k_ e_.symm).1) hs_));(case side4=>exact HC1.out);rintro e w35 ⟨v697,rfl,ho0,hb,hkp⟩;have HS0_:=cell_kept (hHeld.1) hkp (sJ HO_18.out HO_0.out);have HS1_:=cell_kept (hHeld.2.1) hkp (sJ HO_18.out HO_0.out);have HS2_:=cell_kept (hHeld.2.2.1) hkp (sJ HO_18.out HO_0.out);have HS3_:=cell_kept (hHeld.2.2.2) hkp (sJ HO_18.out HO_0.out);refine ⟨_,rfl,?_⟩;have n0_:=aM (Kd.aU (ok':=fun k_=>(P0_ k_ ∨ w.heap.size ≤ k_)) (Kd.vK ((Kd.jH HO_18.out (Kd.lF HO_0.out) (by decide))) hkp (fun k_ hk_ hs_=>(hk_.2) hs_)) (fun k_ hk_=>hk_.1.1));have n1_:=aM (sV (bL BK686) hkp (fun hs_=>(fun e_=>(Kd.qw HO_0.out (fun _ hk=>hk.2)) e_) hs_));have n2_:=aM (Kd.aU (ok':=fun k_=>(P0_ k_ ∨ w.heap.size ≤ k_) ∧ k_ ≠ gb686) ho0 (fun k_ hk_=>⟨Or.elim hk_ (fun hs_=>(HO_0.out.1 k_ (hs_).symm).1) (fun hn_=>(.inr (Nat.le_trans (by first | exact HK.out.1 | exact (show Kept w _ (fun k_=>P0_ k_) from jw GW686.out).1) hn_))),Or.elim hk_ (fun hs_=>fun e_=>(Kd.qw HO_0.out (fun _ hk=>hk.2)) (by rw [← e_];exact hs_)) (fun hn_=>(Kd.rZ (g:=gb686) (o:=.cells #[.int .i64 t678,.int .i64 t679,.int .i64 t680,.int .i64 t681,.int .i64 t682,.int .i64 a4,.int .i64 a5] 30 (0,0)) (bL BK686) k_ hn_))⟩));have n3_:=aM (Kept.pG (S:=(fun k_=>P0_ k_)) (jw GW686.out) hkp (fun k_ hs_=>(fun e_=>(HO_0.out.1 k_ e_.symm).1) hs_));have n4_:=aM hb;clear HO_18;clear BK686;clear HK;clear HB;clear HO_0;have HO_18:=n0_;have BK686:=n1_;have HO698:=n2_;have HK:=n3_;have HB:=n4_;clear n0_ n1_ n2_ n3_ n4_;(try clear hb);(try clear hkp);(try clear ho0);refine hK.out _ _ ⟨HS0_,HS1_,HS2_,HS3_⟩ (fun hHeld=>?_);clear hK K;refine dM (N:=some 86) (h:=?_);refine aX (i:=18) (N:=some 0) (ay 19 524287) (h:=?_);refine mg (nS HT_.out (by kernel_rfl)) ?_;try go_wp2
         go_roundg k2
         case measure=>have:=HJ9.out;have:=HK2.out;omega
         case rel=>exact ⟨(t696),(wrap64 (x19_2 + 1)),bS,H',⟨kP HJ9.out HK2.out⟩,⟨bR HO698⟩,⟨bR HO_18⟩,⟨bL BK686⟩,⟨jw GW686.out⟩,⟨bG GE686⟩⟩
        rw [if_neg c30] at H;exact aB H
       rw [if_neg c29] at H;have c29b0:=decide_eq_false c29;have c29b1:decide (x0_2.length < 8) = false:=decide_eq_false (by omega);clear c29;obtain rfl:=Option.some.inj H;(try simp only [c29b0,c29b1]);go_wp2;go_ret;exact ⟨_,bE,mZ HO_0.out,bG GE686,jw GW686.out⟩
      rw [if_neg c28] at H;have c28b0:=decide_eq_false c28;clear c28;obtain rfl:=Option.some.inj H;(try simp only [c28b0]);go_wp2;go_ret;exact ⟨_,bE,mZ HO_0.out,bG GE686,jw GW686.out⟩
 rw [if_neg c9] at H;exact aB H
def o6.f (k:Nat) (l0:List Int):Option ((List (aH))):=(dJ.f k ([]:List (aH)) l0 0 (l0.length:Int) (-1) 0 1).bind fun t699=>(some t699)
theorem o6.calls (k:Nat) (A0:Option Addr) (c0:Nat) (l0:List Int) (r:List (aH)) (w:World) (hr0:Kd.C (Kd.int .u8) w A0 l0.length l0) (hc0:l0.length ≤ c0) (h:o6.f k l0 = some r) :
  Calls Tryz.prog 16 #[.slice A0 l0.length c0] w fun e w'=>∃ v0_:Value,e = .returned (v0_) ∧ Kd.R k30 30 w' w.heap.size (fun _=>True) v0_ r ∧ Below w.heap.size w w':=by
 have HR0:=aM hr0;have HC0:=aM hc0;clear hr0 hc0;have HB:=aM (Below.refl w.heap.size w);have H:((dJ.f k ([]:List (aH)) l0 0 (l0.length:Int) (-1) 0 1).bind fun t699=>(some t699)) = some r:=h;clear h;replace H:=oB H;obtain ⟨t699,A2,H⟩:=H;replace H:(some t699) = some r:=H;obtain rfl:=Option.some.inj H;go_enter Tryz.func16,Tryz.ntmps16;go_wp2_with (first | ((with_reducible refine gC 33 rfl ?_);refine ah (some 6) Tryz.func33 #[.slice none 0 0,.slice A0 l0.length c0,.int .i64 0,.int .i64 (l0.length:Int),.int .i64 (-1),.int .i64 0,.int .i64 1] ?_;(refine (dJ.calls k (fun k_=>some k_ = (.slice none 0 0:Value).ownBlock) (.slice none 0 0) ([]:List (aH)) _ _ l0 0 (l0.length:Int) (-1) 0 1 t699 w _ ?side1 ?side2 ?side3 ?side4 A2.out).mono ?_);(case side1=>exact mD);(case side2=>exact Kd.vU _ _ _ _ _);(case side3=>exact Kd.Aw (Kd.Bh .u8) HR0.out bB (fun k_ hs_=>(fun e_=>by simp [Value.ownBlock] at e_) hs_));(case side4=>exact HC0.out);rintro e w3 ⟨v700,rfl,ho0,hb,hkp⟩;refine ⟨_,rfl,?_⟩;have HO701:=aM (Kd.aU (ok':=fun k_=>True) ho0 (fun k_ hk_=>trivial));replace HB:=aM hb;(try clear hkp);(try clear ho0)));go_ret;exact ⟨_,bE,bR HO701,bB⟩
def jk.f (k:Nat) (l0:List Int):Option (Int × (List (aH))):=if (l0.length:Int) > 400 then (some (2,([]:List (aH)))) else ((o6.f k l0).bind fun t703=>(some (0,t703)))
theorem jk.calls (k:Nat) (A0:Option Addr) (c0:Nat) (l0:List Int) (r1:Int) (r2:List (aH)) (w:World) (hr0:Kd.C (Kd.int .u8) w A0 l0.length l0) (hc0:l0.length ≤ c0) (h:jk.f k l0 = some (r1,r2)) :
  Calls Tryz.prog 7 #[.slice A0 l0.length c0] w fun e w'=>∃ v1_:Value,e = .returned (.agg #[.int .i64 r1,v1_]) ∧ Kd.R k30 30 w' w.heap.size (fun _=>True) v1_ r2 ∧ Below w.heap.size w w':=by
 have hu27:=Tryz.underlying27;have HR0:=aM hr0;have HC0:=aM hc0;clear hr0 hc0;have HB:=aM (Below.refl w.heap.size w);have H:(if (l0.length:Int) > 400 then (some (2,([]:List (aH)))) else ((o6.f k l0).bind fun t703=>(some (0,t703)))) = some (r1,r2):=h;clear h;by_cases c2:(l0.length:Int) > 400
 ·rw [if_pos c2] at H;have c2b0:decide (400 < (l0.length:Int)) = true:=decide_eq_true c2;have c2b1:decide (400 < l0.length) = true:=decide_eq_true (by omega);clear c2;simp only [Option.some.injEq,Prod.mk.injEq] at H;obtain ⟨rfl,rfl⟩:=H;go_enter Tryz.func7,Tryz.ntmps7;go_wp2_with (first | ((with_reducible refine bF (N:=2) rfl ?_);refine dW ?hg (N:=2) ?hd (cs:=#[.int .i64 0,.slice none 0 0]) (t:=27) ?hr ?_;(case hd=>rfl);(case hg=>rfl);(case hr=>exact aW);intro gb702 hg w3 hbox hb;have BK702:=aM hbox;have GW702:=aM ((dw:w.heap.size ≤ gb702));have GE702:=aM ((dw:w.heap.size ≤ gb702));replace HB:=aM (au bB hb);clear hb hbox hg;obtain ⟨hcz4_0,hcz4_1,hfz4_0,hfz4_1⟩:=cC2 BK702.out));refine bodyPost_ret (results_cell_row rfl _ _ gb702 27 #[.int .i64 2,.slice none 0 0] (0,0) _ rfl (by (with_reducible repeat (first | refine ak ?_ _ | refine aj ?_ | refine ai ?_ _));refine aI (cs:=#[.int .i64 2,.slice none 0 0]) ?_ 1 _ rfl;(with_reducible repeat (first | refine ak ?_ _ | refine aj ?_ | refine ai ?_ _));refine aI (cs:=#[.int .i64 0,.slice none 0 0]) ?_ 0 _ rfl;(with_reducible repeat (first | refine ak ?_ _ | refine aj ?_ | refine ai ?_ _));exact BK702.out) Tryz.underlying27 rfl (by kernel_rfl)) rfl ?_;exact ⟨_,bE,kZ,bG GE702⟩
 rw [if_neg c2] at H;have c2b0:decide (400 < (l0.length:Int)) = false:=decide_eq_false c2;have c2b1:decide (400 < l0.length) = false:=decide_eq_false (by omega);clear c2;replace H:=oB H;obtain ⟨t703,A5,H⟩:=H;try dsimp only at H
 simp only [Option.some.injEq,Prod.mk.injEq] at H;obtain ⟨rfl,rfl⟩:=H;go_enter Tryz.func7,Tryz.ntmps7;go_wp2_with (first | ((with_reducible refine bF (N:=2) rfl ?_);refine dW ?hg (N:=2) ?hd (cs:=#[.int .i64 0,.slice none 0 0]) (t:=27) ?hr ?_;(case hd=>rfl);(case hg=>rfl);(case hr=>exact aW);intro gb702 hg w6 hbox hb;have BK702:=aM hbox;have GW702:=aM ((dw:w.heap.size ≤ gb702));have GE702:=aM ((dw:w.heap.size ≤ gb702));replace HB:=aM (au bB hb);clear hb hbox hg) | ((with_reducible refine gC 16 rfl ?_);refine ah (some 8) Tryz.func16 #[.slice A0 l0.length c0] ?_;(with_reducible refine (o6.calls k _ _ l0 t703 _ ?side1 ?side2 A5.out).mono ?_);(case side1=>exact eY HR0.out);(case side2=>exact HC0.out);rintro e w7 ⟨v704,rfl,ho0,hb⟩;refine ⟨_,rfl,?_⟩;have HO705:=aM (Kd.aQ ho0 (aJ (bG GE702)));replace BK702:=aM (bQ BK702 hb);replace HB:=aM (au (bG GE702) hb);(try clear ho0);obtain ⟨Ao8,co8,eo8⟩:=Kd.bn HO705.out;subst eo8;obtain ⟨hcz9_0,hcz9_1,hfz9_0,hfz9_1⟩:=cC2 BK702.out));refine bodyPost_ret (results_cell_row rfl _ _ gb702 27 #[.int .i64 0,.slice Ao8 t703.length co8] (0,0) _ rfl (xe BK702.out) Tryz.underlying27 rfl (by kernel_rfl)) rfl ?_;exact ⟨_,bE,by (with_reducible repeat (first | apply Kd.R_alloc | apply Kd.dE | apply Kd.dm));exact Kd.aU (Kd.aK (p:=⟨gb702,1,none⟩) (Kd.aK (p:=⟨gb702,0,none⟩) (Kd.gz HO705.out BK702.out (by decide)) (fun _ hk=>hk.2) (.int .i64 0)) (fun _ hk=>hk.2) (.slice Ao8 t703.length co8)) (fun _ hk=>trivial),bG GE702⟩
def o8.f (k:Nat) (l0:List Int) (a1:Int):Option ((List (aH)) × Int):=if (l0.length:Int) > 400 then (some (([]:List (aH)),2)) else ((jP.f k l0).bind fun t706=>((mW.f t706).bind fun t709=>((kM.f a1 0 (wrap64 (t709 - 1))).bind fun t710=>(if t710 = true then (some (t706,0)) else (some (([]:List (aH)),3))))))
theorem o8.calls (k:Nat) (A0:Option Addr) (c0:Nat) (l0:List Int) (a1:Int) (r1:List (aH)) (r2:Int) (w:World) (hr0:Kd.C (Kd.int .u8) w A0 l0.length l0) (hc0:l0.length ≤ c0) (h:o8.f k l0 a1 = some (r1,r2)) :
  Calls Tryz.prog 17 #[.slice A0 l0.length c0,.int .i64 a1] w fun e w'=>∃ v0_:Value,e = .returned (.tuple #[v0_,.int .i64 r2]) ∧ Kd.R k30 30 w' w.heap.size (fun _=>True) v0_ r1 ∧ Below w.heap.size w w':=by
 have HR0:=aM hr0;have HC0:=aM hc0;clear hr0 hc0;have HB:=aM (Below.refl w.heap.size w);have H:(if (l0.length:Int) > 400 then (some (([]:List (aH)),2)) else ((jP.f k l0).bind fun t706=>((mW.f t706).bind fun t709=>((kM.f a1 0 (wrap64 (t709 - 1))).bind fun t710=>(if t710 = true then (some (t706,0)) else (some (([]:List (aH)),3))))))) = some (r1,r2):=h;clear h;by_cases c3:(l0.length:Int) > 400
 ·rw [if_pos c3] at H;have c3b0:decide (400 < (l0.length:Int)) = true:=decide_eq_true c3;have c3b1:decide (400 < l0.length) = true:=decide_eq_true (by omega);clear c3;simp only [Option.some.injEq,Prod.mk.injEq] at H;obtain ⟨rfl,rfl⟩:=H;go_enter Tryz.func17,Tryz.ntmps17;go_wp2;go_ret2;exact ⟨_,bE,kZ,bB⟩
 rw [if_neg c3] at H;have c3b0:decide (400 < (l0.length:Int)) = false:=decide_eq_false c3;have c3b1:decide (400 < l0.length) = false:=decide_eq_false (by omega);clear c3;replace H:=oB H;obtain ⟨t706,A4,H⟩:=H;try dsimp only at H
 replace H:=oB H;obtain ⟨t709,A5,H⟩:=H;try dsimp only at H
 replace H:=oB H;obtain ⟨t710,A6,H⟩:=H;try dsimp only at H
 by_cases c7:t710 = true
 ·subst c7;replace H:(some (t706,0)) = some (r1,r2):=dS;simp only [Option.some.injEq,Prod.mk.injEq] at H;obtain ⟨rfl,rfl⟩:=H;go_enter Tryz.func17,Tryz.ntmps17;go_wp2_with (first | ((with_reducible refine gC 15 rfl ?_);refine ah (some 11) Tryz.func15 #[.slice A0 l0.length c0] ?_;(with_reducible refine (jP.calls k _ _ l0 t706 _ ?side1 ?side2 A4.out).mono ?_);(case side1=>exact jU HR0.out);(case side2=>exact HC0.out);rintro e w8 ⟨v707,rfl,ho0,hb⟩;refine ⟨_,rfl,?_⟩;have HO708:=aM (Kd.aQ ho0 (aJ bB));replace HB:=aM (au bB hb);(try clear ho0);obtain ⟨Ao9,co9,eo9⟩:=Kd.bn HO708.out;subst eo9) | ((with_reducible refine gC 35 rfl ?_);refine ah (some 14) Tryz.func35 #[.slice Ao9 t706.length co9] ?_;(with_reducible refine (mW.calls _ _ t706 t709 _ ?side1 ?side2 A5.out).mono ?_);(case side1=>exact dO HO708.out);(case side2=>exact (Kd.aV HO708.out).2.1);rintro e w' ⟨rfl,⟨nd,rfl⟩⟩;refine ⟨_,rfl,?_⟩) | ((with_reducible refine gC 34 rfl ?_);refine ah (some 16) Tryz.func34 #[.int .i64 a1,.int .i64 0,.int .i64 (wrap64 (t709 - 1))] ?_;(with_reducible refine (kM.calls a1 0 (wrap64 (t709 - 1)) true _ A6.out).mono ?_);rintro e w' ⟨rfl,⟨nd,rfl⟩⟩;refine ⟨_,rfl,?_⟩));go_ret2;exact ⟨_,bE,bR HO708,bB⟩
 replace c7:=Bool.eq_false_iff.mpr c7;subst c7;replace H:(some (([]:List (aH)),3)) = some (r1,r2):=dP;simp only [Option.some.injEq,Prod.mk.injEq] at H;obtain ⟨rfl,rfl⟩:=H;go_enter Tryz.func17,Tryz.ntmps17;go_wp2_with (first | ((with_reducible refine gC 15 rfl ?_);refine ah (some 11) Tryz.func15 #[.slice A0 l0.length c0] ?_;(with_reducible refine (jP.calls k _ _ l0 t706 _ ?side1 ?side2 A4.out).mono ?_);(case side1=>exact jU HR0.out);(case side2=>exact HC0.out);rintro e w10 ⟨v707,rfl,ho0,hb⟩;refine ⟨_,rfl,?_⟩;have HO708:=aM (Kd.aQ ho0 (aJ bB));replace HB:=aM (au bB hb);(try clear ho0);obtain ⟨Ao11,co11,eo11⟩:=Kd.bn HO708.out;subst eo11) | ((with_reducible refine gC 35 rfl ?_);refine ah (some 14) Tryz.func35 #[.slice Ao11 t706.length co11] ?_;(with_reducible refine (mW.calls _ _ t706 t709 _ ?side1 ?side2 A5.out).mono ?_);(case side1=>exact dO HO708.out);(case side2=>exact (Kd.aV HO708.out).2.1);rintro e w' ⟨rfl,⟨nd,rfl⟩⟩;refine ⟨_,rfl,?_⟩) | ((with_reducible refine gC 34 rfl ?_);refine ah (some 16) Tryz.func34 #[.int .i64 a1,.int .i64 0,.int .i64 (wrap64 (t709 - 1))] ?_;(with_reducible refine (kM.calls a1 0 (wrap64 (t709 - 1)) false _ A6.out).mono ?_);rintro e w' ⟨rfl,⟨nd,rfl⟩⟩;refine ⟨_,rfl,?_⟩));go_ret2;exact ⟨_,bE,kZ,bB⟩
def gU.l0:Nat → List Int → Int → Int → Option (List Int)
 | 0,_,_,_=>none
 | k + 1,x0,x2,x3=>if x2 < x3 then (if 0 ≤ x3 then (if x3 < (x0.length:Int) then (if 0 ≤ x2 then (if x2 < (x0.length:Int) then (gU.l0 k ((x0.set (x2:Int).toNat (rd x0 x3)).set (x3:Int).toNat (rd x0 x2)) (wrap64 (x2 + 1)) (wrap64 (x3 - 1))) else (none)) else (none)) else (none)) else (none)) else (some x0)
def gU.f (k:Nat) (l0:List Int):Option (List Int):=gU.l0 k l0 0 (wrap64 ((l0.length:Int) - 1))
def gU.T3:Bool × List (List Nat × List Nat):=(true,[([],[]),([],[]),([],[]),([],[]),([],[]),([],[]),([4,5],[4,5]),([6],[6]),([],[]),([],[]),([8,9],[8,9]),([10],[10]),([0,1,0,1,4,5,6,7,11],[0,1]),([12,7,0,1,4,5,6,7,11],[7,12]),([2,3,0,1,2,3,4,5,6,7,8,9,10,11,12,13],[2,3]),([14,11,13,0,1,2,3,4,5,6,7,8,9,10,11,12,13],[11,14])])
def gU.B3:List Nat:=[0,0,0,0,0,0,48,112,0,0,768,1792,4083,8179,16383,32767]
theorem gU.Ew:gm .any (opsOf Tryz.f18 3) = gU.T3:=by kernel_rfl
theorem gU.Dn:lW gU.T3.2 gU.B3 = true:=by kernel_rfl
theorem gU.calls (k:Nat) (P0_:Nat → Prop) (u9000_:Value) (l0:List Int) (r:List Int) (w0 w:World) (hB:Below w0.heap.size w0 w) (ho0:Kd.R (Kd.int .i64) 2 w w0.heap.size P0_ u9000_ l0) (h:gU.f k l0 = some r) :
  Calls Tryz.prog 18 #[u9000_] w fun e w'=>e = .returned (.tuple #[]) ∧ Kd.R (Kd.int .i64) 2 w' w0.heap.size (fun k_=>(P0_ k_ ∨ w.heap.size ≤ k_)) u9000_ r ∧ Below w0.heap.size w0 w' ∧ Kept w w' (fun k_=>P0_ k_):=by
 have HO0:=aM (show Kd.R (Kd.int .i64) 2 w w0.heap.size (fun k_=>(P0_ k_ ∨ w.heap.size ≤ k_)) u9000_ l0 from Kd.aU ho0 (fun k_ hk=>(.inl hk)));have HK:=aM (Kept.refl w (fun k_=>P0_ k_));have HW0:=aM hB.size;have HB:=aM hB;clear hB;have H:(gU.l0 k l0 0 (wrap64 ((l0.length:Int) - 1))) = some r:=h;clear h;have H':=aM H;clear H;obtain ⟨Ao2,co2,eo2⟩:=Kd.bn HO0.out;subst eo2;go_enter Tryz.func18,Tryz.ntmps18;go_wp2;go_loopg [2,3] k (fun kq v2 v3 w'=>∃ (x0_1:List Int) (x2_1:Int) (x3_1:Int),v2 = .int .i64 x2_1 ∧ v3 = .int .i64 x3_1 ∧ ae (gU.l0 kq x0_1 x2_1 x3_1 = some r) ∧ ae (kq ≤ k) ∧ ae (Kd.R (Kd.int .i64) 2 w' w0.heap.size (fun k_=>(P0_ k_ ∨ w.heap.size ≤ k_)) (.slice Ao2 l0.length co2) x0_1) ∧ ae (Kept w w' (fun k_=>P0_ k_)) ∧ ae (Below w0.heap.size w0 w'))
 case atStart=>exact ⟨(l0),(0),(wrap64 ((l0.length:Int) - 1)),bS,bS,H',⟨Nat.le_refl _⟩,⟨bR HO0⟩,⟨bK⟩,⟨bB⟩⟩
 case round =>
  clear H';obtain ⟨x0_1,x2_1,x3_1,rfl,rfl,HA,HK1,HO_0,HK,HB⟩:=hrel;have hl0_1:=(Kd.aV HO_0.out).1;rw [hl0_1] at HO_0;(try simp only [hl0_1])
  cases gk with
  | zero=>exact absurd HA.out (by simp [gU.l0])
  | succ k1 =>
   have H:=HA.out;clear HA;simp only [gU.l0] at H;by_cases c3:x2_1 < x3_1
   ·rw [if_pos c3] at H;have c3b0:=decide_eq_true c3;(try simp only [hl0_1] at c3b0);clear c3;by_cases c4:0 ≤ x3_1
    ·rw [if_pos c4] at H;have c4b0:=decide_eq_true c4;(try simp only [hl0_1] at c4b0);clear c4;by_cases c5:x3_1 < (x0_1.length:Int)
     ·rw [if_pos c5] at H;have c5b0:=decide_eq_true c5;(try simp only [hl0_1] at c5b0);clear c5;by_cases c6:0 ≤ x2_1
      ·rw [if_pos c6] at H;have c6b0:=decide_eq_true c6;(try simp only [hl0_1] at c6b0);clear c6;by_cases c7:x2_1 < (x0_1.length:Int)
       ·rw [if_pos c7] at H;have c7b0:=decide_eq_true c7;(try simp only [hl0_1] at c7b0);clear c7;obtain ⟨y713,hy713⟩ : ∃ y_:List Int,y_ = (x0_1.set (x2_1:Int).toNat (rd x0_1 x3_1)):=⟨_,rfl⟩;replace H:(gU.l0 k1 (y713.set (x3_1:Int).toNat (rd x0_1 x2_1)) (wrap64 (x2_1 + 1)) (wrap64 (x3_1 - 1))) = some r:=bg hy713;have Ny713:=aM hy713;clear hy713;obtain ⟨y714,hy714⟩ : ∃ y_:List Int,y_ = (y713.set (x3_1:Int).toNat (rd x0_1 x2_1)):=⟨_,rfl⟩;replace H:(gU.l0 k1 y714 (wrap64 (x2_1 + 1)) (wrap64 (x3_1 - 1))) = some r:=bg hy714;have Ny714:=aM hy714;clear hy714;have H':=aM H;clear H;try go_wp2
        replace HO_0:=aM (Kd.dm HO_0.out);replace HK:=aM (Kept.drew HK.out);replace HB:=aM (iP HB.out);have p711:0 ≤ (x3_1:Int):=pI;have q711:x3_1 < (x0_1.length:Int):=pI;obtain ⟨ad711,e711,hx711_0⟩:=Kd.eP (Kd.aV HO_0.out).2.2 x3_1 p711 q711;cases e711;replace p711:=eq_true p711;replace q711:=eq_true q711;have p712:0 ≤ (x2_1:Int):=pI;have q712:x2_1 < (x0_1.length:Int):=pI;obtain ⟨ad712,e712,hx712_0⟩:=Kd.eP (Kd.aV HO_0.out).2.2 x2_1 p712 q712;obtain rfl:ad711 = ad712:=(by injection e712);replace p712:=eq_true p712;replace q712:=eq_true q712;have p8:0 ≤ (x2_1:Int):=pI;have q8:(x2_1:Int) < ((x0_1.length:Int):Int):=pI;obtain ⟨go8,co8,eo8,gb8,gl8,cl8,HG8⟩:=Kd.nM HO_0.out (by omega);(first | cases eo8 | (injection eo8 with ea_ en_ ec_;(first | subst ea_ | (injection ea_ with ea_;subst ea_));subst ec_;clear en_));have GB8:=aM gb8;have GG8:=aM HG8;clear gb8 gl8 HG8;have HMgo8:=aM (show (P0_ go8 ∨ w.heap.size ≤ go8) from (HO_0.out.1 _ rfl));(first | simp only [add_plain] at hx711_0 | skip);(first | simp only [add_plain] at hx712_0 | skip);obtain ⟨hx8_0,hf8_0⟩:=Kd.jZ 0 HO_0.out (x2_1:Int) p8 q8;replace p8:=eq_true p8;replace q8:=eq_true q8;have HP11:=Kd.xQ HO_0.out (x2_1:Int) (rd x0_1 x3_1);rw [← Ny713.out] at HP11;have HQ11:=aM HP11;clear HP11;have p9:0 ≤ (x3_1:Int):=pI;have q9:(x3_1:Int) < ((x0_1.length:Int):Int):=pI;obtain ⟨hx9_0,hf9_0⟩:=Kd.jZ 0 HQ11.out (x3_1:Int) p9 q9;replace p9:=eq_true p9;replace q9:=eq_true q9;have HP12:=Kd.xQ HQ11.out (x3_1:Int) (rd x0_1 x2_1);rw [← Ny714.out] at HP12;have HQ12:=aM HP12;clear HP12;refine mF (n:=16) (S:=fun w'=>w'.cell? ⟨go8,(x3_1).toNat,none⟩ = some (.int .i64 (rd x0_1 x3_1)) ∧ w'.cell? ⟨go8,(x2_1).toNat,none⟩ = some (.int .i64 (rd x0_1 x2_1))) (ds:=[13,15]) (ay 16 0) (by kernel_rfl) rfl rfl ⟨hx711_0,hx712_0⟩ (fun hHeld=>?_);refine nz gU.Ew gU.Dn (fun HT_ HW_=>?_);generalize wr.drew = w10 at HO_0 HK HB GG8 HQ11 HQ12 hf8_0 hf9_0 hx711_0 hx712_0 hx8_0 hx9_0 hHeld ⊢;refine aX (i:=0) (N:=some 14) (ay 16 1) (h:=?_);refine aX (i:=1) (N:=some 15) (ay 16 3) (h:=?_);refine aX (i:=2) (N:=some 16) (ay 16 7) (h:=?_);refine aX (i:=3) (N:=some 17) (ay 16 15) (h:=?_);refine aX (i:=4) (N:=some 18) (ay 16 31) (h:=?_);refine aX (i:=5) (N:=some 19) (ay 16 63) (h:=?_);refine aX (i:=6) (N:=some 20) (ay 16 127) (h:=?_);refine aX (i:=8) (N:=some 22) (ay 16 383) (h:=?_);refine aX (i:=9) (N:=some 23) (ay 16 895) (h:=?_);refine aX (i:=10) (N:=some 24) (ay 16 1919) (h:=?_);refine gI (i:=7) (N:=some 21) (v:=?_) (a':=?_) (ay 16 2047) rfl rfl (iD HT_.out HW_.out (by kernel_rfl)) (fun _ _ _ h=>h) (Or.inl ⟨by rfl,?_⟩) hHeld ?_ ?_;rotate_left
        ·rintro w' ⟨s0,s1⟩;go_simp;with_reducible rfl
        rotate_left
        ·simp only [Act.put,List.setIfInBounds_toArray,List.set_cons_zero,List.set_cons_succ,bV,dh];rfl
        refine gI (i:=11) (N:=some 25) (v:=?_) (a':=?_) (ay 16 4095) rfl rfl (iD HT_.out HW_.out (by kernel_rfl)) (fun _ _ _ h=>h) (Or.inl ⟨by rfl,?_⟩) hHeld ?_ ?_;rotate_left
        ·rintro w' ⟨s0,s1⟩;go_simp;with_reducible rfl
        rotate_left
        ·simp only [Act.put,List.setIfInBounds_toArray,List.set_cons_zero,List.set_cons_succ,bV,dh];rfl
        refine aX (i:=12) (N:=some 26) (ay 16 8191) (h:=?_);refine wO (i:=13) (N:=none) (ay 16 16383) rfl rfl (fO HT_.out (by kernel_rfl)) (by decide) (fun K hK=>?_);refine wE (w1:=?_) (by rfl) rfl ?_ ?_;rotate_left
        ·go_simp;rfl
        refine hK.out _ _ ?_;clear hK K;refine aX (i:=14) (N:=some 27) (ay 16 32767) (h:=?_);refine wO (i:=15) (N:=none) (ay 16 65535) rfl rfl (fO HT_.out (by kernel_rfl)) (by decide) (fun K hK=>?_);refine wE (w1:=?_) (by rfl) rfl ?_ ?_;rotate_left
        ·go_simp;rfl
        refine hK.out _ _ ?_;clear hK K;refine mg (nS HT_.out (by kernel_rfl)) ?_;try go_wp2
        (try simp only [← hl0_1]);go_roundg k1
        case measure=>have:=HK1.out;omega
        case rel=>exact ⟨(y714),(wrap64 (x2_1 + 1)),(wrap64 (x3_1 - 1)),bS,bS,H',⟨by have:=HK1.out;omega⟩,⟨by (try simp only [hl0_1]);(with_reducible repeat (first | apply Kd.R_alloc | apply Kd.dE | apply Kd.dm));exact HQ12.out⟩,⟨by repeat (first | (with_reducible first | exact HK.out | apply Kept.alloc | apply Kept.drewN | apply Kept.drew | refine Kept.setCell ?_ HMgo8.out _ | refine Kept.setCell ?_ HMgo8.out _) | exact HK.out)⟩,⟨dB GB8 GB8⟩⟩
       rw [if_neg c7] at H;exact aB H
      rw [if_neg c6] at H;exact aB H
     rw [if_neg c5] at H;exact aB H
    rw [if_neg c4] at H;exact aB H
   rw [if_neg c3] at H;have c3b0:=decide_eq_false c3;(try simp only [hl0_1] at c3b0);clear c3;obtain rfl:=Option.some.inj H;go_wp2;first | go_end0 | ((try simp only [Exit.inBlock,Exit.then]);refine bodyPost_ret (results_none rfl _ _ _) rfl ?_)
   exact ⟨bE,(by first | exact (bR HO_0) | (simp only [hl0_1];exact (bR HO_0))),bB,bK⟩
end Go.Proofs.YtecpanfndodjgaaGreatDoor.PNested
