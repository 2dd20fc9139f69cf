/- Part of the proof;words that it uses. -/
import Derived.Test.YtecpanfndodjgaaGreatDoorPNestedx0
import Derived.Test.YtecpanfndodjgaaGreatDoorPNestedx5
import Derived.Test.YtecpanfndodjgaaGreatDoorPNestedx6
namespace Go.Proofs.YtecpanfndodjgaaGreatDoor.PNested
set_option maxHeartbeats 8000000
set_option maxRecDepth 100000
open Go.RowKit Go.Proofs.YtecpanfndodjgaaGreatDoorW.PrintWords Go.Proofs.YtecpanfndodjgaaGreatDoorW.PrintLast Go.Proofs.YtecpanfndodjgaaGreatDoorW.PrintMore
attribute [local go_sem] jJ jL
set_option linter.unusedVariables false
set_option linter.unusedSimpArgs false
def gu.l0:Nat → ByteArray → List (ag) → Int → Int → Option (ByteArray × Bool)
 | 0,_,_,_,_=>none
 | k + 1,x1,x8,x9,x10=>if x10 < x9 then (if 0 ≤ x10 then (if x10 < (x8.length:Int) then ((di.f k ((bu x8 x10).f0)).bind fun t471=>((di.f k x1).bind fun t472=>(if t471.toList = t472.toList then (some ((bu x8 x10).f1,true)) else (gu.l0 k x1 x8 x9 (wrap64 (x10 + 1)))))) else (none)) else (none)) else (some ((⟨#[]⟩ : ByteArray),false))
def gu.f (k:Nat) (l0:List (ag)) (a1:ByteArray):Option (ByteArray × Bool):=gu.l0 k a1 l0 (l0.length:Int) 0
theorem gu.calls (k:Nat) (A0:Option Addr) (c0:Nat) (l0:List (ag)) (a1:ByteArray) (r1:ByteArray) (r2:Bool) (w:World) (hr0:Kd.C bJ w A0 l0.length l0) (hc0:l0.length ≤ c0) (h:gu.f k l0 a1 = some (r1,r2)) :
  Calls Tryz.prog 49 #[.slice A0 l0.length c0,.string a1] w fun e w'=>e = .returned (.tuple #[.string r1,.bool r2]) ∧ Below w.heap.size w w':=by
 have hu111:=Tryz.underlying111;have HR0:=aM hr0;have HC0:=aM hc0;clear hr0 hc0;have HB:=aM (Below.refl w.heap.size w);have H:(gu.l0 k a1 l0 (l0.length:Int) 0) = some (r1,r2):=h;clear h;have H':=aM H;clear H;go_enter Tryz.func49,Tryz.ntmps49;go_wp2;go_loopg [10] k (fun kq v10 w'=>∃ (x10_1:Int),v10 = .int .i64 x10_1 ∧ ae (gu.l0 kq a1 l0 (l0.length:Int) x10_1 = some (r1,r2)) ∧ ae (kq ≤ k) ∧ ae (Below w.heap.size w w'))
 case atStart=>exact ⟨(0),bS,H',⟨Nat.le_refl _⟩,⟨bB⟩⟩
 case round =>
  clear H';obtain ⟨x10_1,rfl,HA,HK1,HB⟩:=hrel
  cases gk with
  | zero=>exact absurd HA.out (by simp [gu.l0])
  | succ k1 =>
   have H:=HA.out;clear HA;simp only [gu.l0] at H;by_cases c3:x10_1 < (l0.length:Int)
   ·rw [if_pos c3] at H;have c3b0:=decide_eq_true c3;clear c3;by_cases c4:0 ≤ x10_1
    ·rw [if_pos c4] at H;have c4b0:=decide_eq_true c4;clear c4;by_cases c5:x10_1 < (l0.length:Int)
     ·rw [if_pos c5] at H;have c5b0:=decide_eq_true c5;clear c5;replace H:=oB H;obtain ⟨t471,A6,H⟩:=H;try dsimp only at H
      replace H:=oB H;obtain ⟨t472,A7,H⟩:=H;try dsimp only at H
      by_cases c8:t471.toList = t472.toList
      ·rw [if_pos c8] at H;have c8b0:(t471.toList == t472.toList) = true:=beq_iff_eq.mpr c8;have c8b1:(t471.toList != t472.toList) = false:=bne_eq_false_iff_eq.mpr c8;clear c8;simp only [Option.some.injEq,Prod.mk.injEq] at H;obtain ⟨rfl,rfl⟩:=H;have p469:0 ≤ (x10_1:Int):=pI;have q469:x10_1 < (l0.length:Int):=pI;obtain ⟨ad469,e469,hx469_0,hx469_1⟩:=jW HR0.out x10_1 p469 q469;cases e469;replace hx469_0:=(HB.out.cell (World.block_lt_of_cell? w _ hx469_0)).trans hx469_0;replace hx469_1:=(HB.out.cell (World.block_lt_of_cell? w _ hx469_1)).trans hx469_1;replace p469:=eq_true p469;replace q469:=eq_true q469;go_wp2_with (first | ((with_reducible refine bF (N:=7) rfl ?_);refine dW ?hg (N:=7) ?hd (cs:=#[.string (⟨#[]⟩ : ByteArray),.string (⟨#[]⟩ : ByteArray)]) (t:=111) ?hr ?_;(case hd=>rfl);(case hg=>rfl);(case hr=>exact aW);intro gb470 hg w9 hbox hb;have BK470:=aM hbox;have GW470:=aM ((dw:w.heap.size ≤ gb470));have GE470:=aM ((dw:w.heap.size ≤ gb470));replace HB:=aM (au bB hb);clear hb hbox hg;obtain ⟨hcz10_0,hcz10_1,hfz10_0,hfz10_1⟩:=cC2 BK470.out) | ((with_reducible refine gC 23 rfl ?_);refine ah (some 16) Tryz.func23 #[.string ((bu l0 x10_1).f0)] ?_;(with_reducible refine (di.calls k1 ((bu l0 x10_1).f0) t471 _ A6.out).mono ?_);rintro e w11 ⟨rfl,hb⟩;refine ⟨_,rfl,?_⟩;replace BK470:=aM (fE (g:=gb470) (o:=.cells #[.string ((bu l0 x10_1).f0),.string ((bu l0 x10_1).f1)] 111 (0,0)) (uG BK470.out) hb);replace HB:=aM (au (bG GE470) hb);(try clear hi)) | ((with_reducible refine gC 23 rfl ?_);refine ah (some 18) Tryz.func23 #[.string a1] ?_;(with_reducible refine (di.calls k1 a1 t472 _ A7.out).mono ?_);rintro e w12 ⟨rfl,hb⟩;refine ⟨_,rfl,?_⟩;replace BK470:=aM (bQ BK470 hb);replace HB:=aM (au (bG GE470) hb);obtain ⟨hcz13_0,hcz13_1,hfz13_0,hfz13_1⟩:=cC2 BK470.out));go_ret2;exact ⟨bE,bG GE470⟩
      rw [if_neg c8] at H;have c8b0:(t471.toList == t472.toList) = false:=beq_eq_false_iff_ne.mpr c8;have c8b1:(t471.toList != t472.toList) = true:=bne_iff_ne.mpr c8;have H':=aM H;clear H;have p469:0 ≤ (x10_1:Int):=pI;have q469:x10_1 < (l0.length:Int):=pI;obtain ⟨ad469,e469,hx469_0,hx469_1⟩:=jW HR0.out x10_1 p469 q469;cases e469;replace hx469_0:=(HB.out.cell (World.block_lt_of_cell? w _ hx469_0)).trans hx469_0;replace hx469_1:=(HB.out.cell (World.block_lt_of_cell? w _ hx469_1)).trans hx469_1;replace p469:=eq_true p469;replace q469:=eq_true q469;go_wp2_with (first | ((with_reducible refine bF (N:=7) rfl ?_);refine dW ?hg (N:=7) ?hd (cs:=#[.string (⟨#[]⟩ : ByteArray),.string (⟨#[]⟩ : ByteArray)]) (t:=111) ?hr ?_;(case hd=>rfl);(case hg=>rfl);(case hr=>exact aW);intro gb470 hg w14 hbox hb;have BK470:=aM hbox;have GW470:=aM ((dw:w.heap.size ≤ gb470));have GE470:=aM ((dw:w.heap.size ≤ gb470));replace HB:=aM (au bB hb);clear hb hbox hg;obtain ⟨hcz15_0,hcz15_1,hfz15_0,hfz15_1⟩:=cC2 BK470.out) | ((with_reducible refine gC 23 rfl ?_);refine ah (some 16) Tryz.func23 #[.string ((bu l0 x10_1).f0)] ?_;(with_reducible refine (di.calls k1 ((bu l0 x10_1).f0) t471 _ A6.out).mono ?_);rintro e w16 ⟨rfl,hb⟩;refine ⟨_,rfl,?_⟩;replace BK470:=aM (fE (g:=gb470) (o:=.cells #[.string ((bu l0 x10_1).f0),.string ((bu l0 x10_1).f1)] 111 (0,0)) (uG BK470.out) hb);replace HB:=aM (au (bG GE470) hb);(try clear hi)) | ((with_reducible refine gC 23 rfl ?_);refine ah (some 18) Tryz.func23 #[.string a1] ?_;(with_reducible refine (di.calls k1 a1 t472 _ A7.out).mono ?_);rintro e w17 ⟨rfl,hb⟩;refine ⟨_,rfl,?_⟩;replace BK470:=aM (bQ BK470 hb);replace HB:=aM (au (bG GE470) hb);(try clear hi)));go_roundg k1
      case measure=>have:=HK1.out;omega
      case rel=>exact ⟨(wrap64 (x10_1 + 1)),bS,H',⟨by have:=HK1.out;omega⟩,⟨bG GE470⟩⟩
     rw [if_neg c5] at H;exact aB H
    rw [if_neg c4] at H;exact aB H
   rw [if_neg c3] at H;have c3b0:=decide_eq_false c3;clear c3;simp only [Option.some.injEq,Prod.mk.injEq] at H;obtain ⟨rfl,rfl⟩:=H;go_wp2;go_ret2;exact ⟨bE,bB⟩
def oC.f (k:Nat) (a0:ByteArray):Option (Int):=(di.f k a0).bind fun t473=>(if t473.toList = ([98,97,115,101,54,52]:List UInt8) then (some 2) else (if t473.toList = ([113,117,111,116,101,100,45,112,114,105,110,116,97,98,108,101]:List UInt8) then (some 3) else (some 1)))
theorem oC.calls (k:Nat) (a0:ByteArray) (r:Int) (w:World) (h:oC.f k a0 = some r) :
  Calls Tryz.prog 50 #[.string a0] w fun e w'=>e = .returned (.int .i64 r) ∧ Below w.heap.size w w':=by
 have HB:=aM (Below.refl w.heap.size w);have H:((di.f k a0).bind fun t473=>(if t473.toList = ([98,97,115,101,54,52]:List UInt8) then (some 2) else (if t473.toList = ([113,117,111,116,101,100,45,112,114,105,110,116,97,98,108,101]:List UInt8) then (some 3) else (some 1)))) = some r:=h;clear h;replace H:=oB H;obtain ⟨t473,A2,H⟩:=H;try dsimp only at H
 by_cases c3:t473.toList = ([98,97,115,101,54,52]:List UInt8)
 ·rw [if_pos c3] at H;have c3b0:(t473.toList == ([98,97,115,101,54,52]:List UInt8)) = true:=beq_iff_eq.mpr c3;have c3b1:(t473.toList != ([98,97,115,101,54,52]:List UInt8)) = false:=bne_eq_false_iff_eq.mpr c3;clear c3;obtain rfl:=Option.some.inj H;go_enter Tryz.func50,Tryz.ntmps50;go_wp2_with (first | ((with_reducible refine gC 23 rfl ?_);refine ah (some 4) Tryz.func23 #[.string a0] ?_;(with_reducible refine (di.calls k a0 t473 _ A2.out).mono ?_);rintro e w4 ⟨rfl,hb⟩;refine ⟨_,rfl,?_⟩;replace HB:=aM (au bB hb);(try clear hi)));go_ret;exact ⟨bE,bB⟩
 rw [if_neg c3] at H;have c3b0:(t473.toList == ([98,97,115,101,54,52]:List UInt8)) = false:=beq_eq_false_iff_ne.mpr c3;have c3b1:(t473.toList != ([98,97,115,101,54,52]:List UInt8)) = true:=bne_iff_ne.mpr c3;by_cases c5:t473.toList = ([113,117,111,116,101,100,45,112,114,105,110,116,97,98,108,101]:List UInt8)
 ·rw [if_pos c5] at H;have c5b0:(t473.toList == ([113,117,111,116,101,100,45,112,114,105,110,116,97,98,108,101]:List UInt8)) = true:=beq_iff_eq.mpr c5;have c5b1:(t473.toList != ([113,117,111,116,101,100,45,112,114,105,110,116,97,98,108,101]:List UInt8)) = false:=bne_eq_false_iff_eq.mpr c5;clear c5;obtain rfl:=Option.some.inj H;go_enter Tryz.func50,Tryz.ntmps50;go_wp2_with (first | ((with_reducible refine gC 23 rfl ?_);refine ah (some 4) Tryz.func23 #[.string a0] ?_;(with_reducible refine (di.calls k a0 t473 _ A2.out).mono ?_);rintro e w6 ⟨rfl,hb⟩;refine ⟨_,rfl,?_⟩;replace HB:=aM (au bB hb);(try clear hi)));go_ret;exact ⟨bE,bB⟩
 rw [if_neg c5] at H;have c5b0:(t473.toList == ([113,117,111,116,101,100,45,112,114,105,110,116,97,98,108,101]:List UInt8)) = false:=beq_eq_false_iff_ne.mpr c5;have c5b1:(t473.toList != ([113,117,111,116,101,100,45,112,114,105,110,116,97,98,108,101]:List UInt8)) = true:=bne_iff_ne.mpr c5;obtain rfl:=Option.some.inj H;go_enter Tryz.func50,Tryz.ntmps50;go_wp2_with (first | ((with_reducible refine gC 23 rfl ?_);refine ah (some 4) Tryz.func23 #[.string a0] ?_;(with_reducible refine (di.calls k a0 t473 _ A2.out).mono ?_);rintro e w7 ⟨rfl,hb⟩;refine ⟨_,rfl,?_⟩;replace HB:=aM (au bB hb);(try clear hi)));go_ret;exact ⟨bE,bB⟩
mutual
def dF.l0:Nat → List Int → Int → ByteArray → List (df) → Bool → Int → Int → Option ((List (df)))
 | 0,_,_,_,_,_,_,_=>none
 | k + 1,x0,x2,x3,x9,x10,x11,x12=>if x12 < x2 then (if 0 ≤ x12 then (if x12 ≤ x2 then (if x2 ≤ (x0.length:Int) then ((bytes_IndexByte.f ((x0.take (x2:Int).toNat).drop (x12:Int).toNat) 10).bind fun t481=>(if t481 < 0 then (dF.j1 k x0 x2 x3 x9 x10 x11 x12 (wrap64 (x2 - x12)) x2) else (dF.j1 k x0 x2 x3 x9 x10 x11 x12 t481 (wrap64 ((wrap64 (x12 + t481)) + 1))))) else (none)) else (none)) else (none)) else (if x10 = true then (if x9.length < 8796093022208 then (some (x9 ++ [(⟨x11,x2⟩ : df)])) else (none)) else (some x9))
def dF.j1:Nat → List Int → Int → ByteArray → List (df) → Bool → Int → Int → Int → Int → Option ((List (df)))
 | 0,_,_,_,_,_,_,_,_,_=>none
 | k + 1,x0,x2,x3,x9,x10,x11,x12,x13,x14=>if 0 ≤ x12 then (if x12 ≤ (wrap64 (x12 + x13)) then (if (wrap64 (x12 + x13)) ≤ (x0.length:Int) then (if 2 + x3.size ≤ 9223372036854775807 then (if (strOfNums ((x0.take ((wrap64 (x12 + x13)):Int).toNat).drop (x12:Int).toNat)).toList = ((⟨#[45,45]⟩ : ByteArray) ++ x3).toList then (dF.j2 k x0 x2 x3 x9 x10 x11 x12 x14 (strOfNums ((x0.take ((wrap64 (x12 + x13)):Int).toNat).drop (x12:Int).toNat)) true) else (if ((⟨#[45,45]⟩ : ByteArray) ++ x3).size + 2 ≤ 9223372036854775807 then (dF.j2 k x0 x2 x3 x9 x10 x11 x12 x14 (strOfNums ((x0.take ((wrap64 (x12 + x13)):Int).toNat).drop (x12:Int).toNat)) ((strOfNums ((x0.take ((wrap64 (x12 + x13)):Int).toNat).drop (x12:Int).toNat)).toList == (((⟨#[45,45]⟩ : ByteArray) ++ x3) ++ (⟨#[45,45]⟩ : ByteArray)).toList)) else (none))) else (none)) else (none)) else (none)) else (none)
def dF.j2:Nat → List Int → Int → ByteArray → List (df) → Bool → Int → Int → Int → ByteArray → Bool → Option ((List (df)))
 | 0,_,_,_,_,_,_,_,_,_,_=>none
 | k + 1,x0,x2,x3,x9,x10,x11,x12,x14,x15,x59=>if x59 = true then (if x10 = true then (if x9.length < 8796093022208 then ((some (x9 ++ [(⟨x11,mx x11 (wrap64 (x12 - 1))⟩ : df)]:List (df))).bind fun y483=>(if 2 + x3.size ≤ 9223372036854775807 then (if (x15.toList = ((⟨#[45,45]⟩ : ByteArray) ++ x3).toList) then (dF.l0 k x0 x2 x3 y483 (x15.toList == ((⟨#[45,45]⟩ : ByteArray) ++ x3).toList) x14 x14) else (some y483)) else (none))) else (none)) else (if 2 + x3.size ≤ 9223372036854775807 then (if (x15.toList = ((⟨#[45,45]⟩ : ByteArray) ++ x3).toList) then (dF.l0 k x0 x2 x3 x9 (x15.toList == ((⟨#[45,45]⟩ : ByteArray) ++ x3).toList) x14 x14) else (some x9)) else (none))) else (dF.l0 k x0 x2 x3 x9 x10 x11 x14)
end
def dF.f (k:Nat) (l0:List Int) (a1:Int) (a2:Int) (a3:ByteArray):Option ((List (df))):=dF.l0 k l0 a2 a3 (([]:List (df))) false 0 a1
theorem dF.calls (k:Nat) (A0:Option Addr) (c0:Nat) (l0:List Int) (a1:Int) (a2:Int) (a3:ByteArray) (r:List (df)) (w:World) (g_:Nat) (hg_:w.cell? ⟨g_,0,none⟩ = some (.slice A0 l0.length c0)) (hr0:Kd.C (Kd.int .u8) w A0 l0.length l0) (hc0:l0.length ≤ c0) (h:dF.f k l0 a1 a2 a3 = some r) :
  Calls Tryz.prog 51 #[.pointer (some ⟨g_,0,none⟩),.int .i64 a1,.int .i64 a2,.string a3] w fun e w'=>∃ v0_:Value,e = .returned (v0_) ∧ Kd.R kS 84 w' w.heap.size (fun _=>True) v0_ r ∧ Below w.heap.size w w':=by
 have hu63:=Tryz.underlying63;have HG_:=aM hg_;clear hg_;have hu84:=Tryz.underlying84;have HR0:=aM hr0;have HC0:=aM hc0;clear hr0 hc0;have HB:=aM (Below.refl w.heap.size w);have H:(dF.l0 k l0 a2 a3 (([]:List (df))) false 0 a1) = some r:=h;clear h;obtain ⟨y474,hy474⟩ : ∃ y_:List (df),y_ = (([]:List (df))):=⟨_,rfl⟩;replace H:(dF.l0 k l0 a2 a3 y474 false 0 a1) = some r:=bg hy474;have Ny474:=aM hy474;clear hy474;have H':=aM H;clear H;go_enter Tryz.func51,Tryz.ntmps51;go_wp2_with (first | ((with_reducible refine bF (N:=16) rfl ?_);refine Kd.fG kS _ 84 ?hg (N:=16) ?hd (xs:=([]:List (df))) (inner:=[]) (ok:=fun _=>True) (okp:=fun _=>True) ?hr ?hp (fun _ hk=>hk) trivial (Below.refl _ _) (Nat.le_refl _) (by simp) ?_;(case hd=>rfl);(case hg=>rfl);(case hr=>exact aW);(case hp=>exact (ax.none _ _));intro v475 w5 ho6 hb hg_ hnew_;clear hg_ hnew_;(first | rw [← Ny474.out] at ho6 | (simp only [Int.reduceToNat] at ho6;rw [← Ny474.out] at ho6));have HO476:=aM (Kd.aQ ho6 (aJ bB));replace HB:=aM (au bB hb);clear hb ho6));go_loopg [9,10,11,12] k (fun kq v9 v10 v11 v12 w'=>∃ (x9_1:List (df)) (x10_1:Bool) (x11_1:Int) (x12_1:Int),v10 = .bool x10_1 ∧ v11 = .int .i64 x11_1 ∧ v12 = .int .i64 x12_1 ∧ ae (dF.l0 kq l0 a2 a3 x9_1 x10_1 x11_1 x12_1 = some r) ∧ ae (kq ≤ k) ∧ ae (Kd.R kS 84 w' w.heap.size (fun _=>True) v9 x9_1) ∧ ae (Below w.heap.size w w'))
 case atStart=>exact ⟨(y474),(false),(0),(a1),bS,bS,bS,H',⟨Nat.le_refl _⟩,⟨bR HO476⟩,⟨bB⟩⟩
 case round =>
  clear H';obtain ⟨x9_1,x10_1,x11_1,x12_1,rfl,rfl,rfl,HA,HK1,HO_9,HB⟩:=hrel;have hg1_:=(HB.out.cell (World.block_lt_of_cell? _ _ HG_.out)).trans HG_.out
  cases gk with
  | zero=>exact absurd HA.out (by simp [dF.l0])
  | succ k1 =>
   have H:=HA.out;clear HA;simp only [dF.l0] at H;by_cases c7:x12_1 < a2
   ·rw [if_pos c7] at H;have c7b0:=decide_eq_true c7;clear c7;by_cases c8:0 ≤ x12_1
    ·rw [if_pos c8] at H;have c8b0:=eq_true c8;have c8b1:=decide_eq_true c8;clear c8;by_cases c9:x12_1 ≤ a2
     ·rw [if_pos c9] at H;have c9b0:=eq_true c9;have c9b1:=decide_eq_true c9;clear c9;by_cases c10:a2 ≤ (l0.length:Int)
      ·rw [if_pos c10] at H;have c10b0:=eq_true c10;have c10b1:=decide_eq_true c10;(try have c10z:=eq_true (show (a2:Int) ≤ (c0:Int) from (by have h_:=HC0.out;omega)));clear c10;replace H:=oB H;obtain ⟨t481,A11,H⟩:=H;try dsimp only at H
       have HC12:=aM H;clear H;obtain ⟨i013,hi013,_,hsz13,_⟩:=info_parts info5;obtain ⟨A13,hcut13,hA13,hC13⟩:=jr (P:=Tryz.prog) (Value.int .u8) 0 22 5 .i64 .i64 Tryz.underlying22 hi013 hsz13 A0 c0 l0 x12_1 a2 (pI) (by first | omega | exact pI) (pI) HC0.out;have HR480:=aM (Kd.iQ (h1:=fun _=>rfl) (hA13 _ (Kd.iF HR0.out)));have HC480:=aM hC13;clear hA13 hC13 hi013 hsz13;go_upto_if 34 with (first | ((with_reducible refine gC 71 rfl ?_);refine ou (some 28) rfl rfl Tryz.func71 (by kernel_rfl) rfl #[.slice A13 ((l0.take (a2:Int).toNat).drop (x12_1:Int).toNat).length (c0 - x12_1.toNat),.int .u8 10] rfl (by (try simp only [List.map_toArray,List.map_cons,List.map_nil]);first | done | (rw [show ((l0.take (a2:Int).toNat).drop (x12_1:Int).toNat).length = (a2.toNat - x12_1.toNat) from FN] <;> rfl) | rfl | (simp only [List.length_drop,List.length_take];rfl)) ?_;(with_reducible refine (bytes_IndexByte.calls _ _ ((l0.take (a2:Int).toNat).drop (x12_1:Int).toNat) 10 t481 _ ?side1 ?side2 A11.out).mono ?_);(case side1=>exact eY HR480.out);(case side2=>exact HC480.out);rintro e w' ⟨rfl,⟨nd,rfl⟩⟩;refine ⟨_,rfl,?_⟩));(try simp only [Act.put,List.setIfInBounds_toArray,List.set_cons_zero,List.set_cons_succ]);go_cut [13,14] (fun v13 v14 wc=>∃ (kq:Nat) (x13_11:Int) (x14_11:Int),v13 = .int .i64 x13_11 ∧ v14 = .int .i64 x14_11 ∧ ae (dF.j1 kq l0 a2 a3 x9_1 x10_1 x11_1 x12_1 x13_11 x14_11 = some r) ∧ ae (kq ≤ k1) ∧ ae (Kd.R kS 84 wc w.heap.size (fun _=>True) u9 x9_1) ∧ ae (Below w.heap.size w wc))
       case first =>
        have H:=HC12.out;clear HC12;by_cases c14:t481 < 0
        ·rw [if_pos c14] at H;have c14b0:=decide_eq_true c14;clear c14;(first | rw [c14b0] | (simp only [bV,dh];rw [c14b0]) | skip);have H':=aM H;clear H;go_wp2;go_meet
         case rel=>exact ⟨_,(wrap64 (a2 - x12_1)),(a2),bS,bS,H',⟨gW HK1.out⟩,⟨bR HO_9⟩,⟨bB⟩⟩
        rw [if_neg c14] at H;have c14b0:=decide_eq_false c14;clear c14;(first | rw [c14b0] | (simp only [bV,dh];rw [c14b0]) | skip);have H':=aM H;clear H;go_wp2;go_meet
        case rel=>exact ⟨_,(t481),(wrap64 ((wrap64 (x12_1 + t481)) + 1)),bS,bS,H',⟨gW HK1.out⟩,⟨bR HO_9⟩,⟨bB⟩⟩
       case rest =>
        clear HC12;try clear c7
        try clear c7b0
        try clear c8
        try clear c8b0
        try clear c8b1
        try clear c9
        try clear c9b0
        try clear c9b1
        try clear c10
        try clear c10b0
        try clear c10b1
        obtain ⟨kq,x13_11,x14_11,rfl,rfl,HA,HJ11,HO_9,HB⟩:=hcut;have hg1_:=(HB.out.cell (World.block_lt_of_cell? _ _ HG_.out)).trans HG_.out
        cases kq with
        | zero=>exact absurd HA.out (by simp [dF.j1])
        | succ kj11 =>
         have H:=HA.out;clear HA;simp only [dF.j1] at H;by_cases c15:0 ≤ x12_1
         ·rw [if_pos c15] at H;have c15b0:=eq_true c15;have c15b1:=decide_eq_true c15;clear c15;by_cases c16:x12_1 ≤ (wrap64 (x12_1 + x13_11))
          ·rw [if_pos c16] at H;have c16b0:=eq_true c16;have c16b1:=decide_eq_true c16;by_cases c17:(wrap64 (x12_1 + x13_11)) ≤ (l0.length:Int)
           ·rw [if_pos c17] at H;have c17b0:=eq_true c17;have c17b1:=decide_eq_true c17;have HC18:=aM H;clear H;obtain ⟨i019,hi019,_,hsz19,_⟩:=info_parts info5;obtain ⟨A19,hcut19,hA19,hC19⟩:=jr (P:=Tryz.prog) (Value.int .u8) 0 22 5 .i64 .i64 Tryz.underlying22 hi019 hsz19 A0 c0 l0 x12_1 (wrap64 (x12_1 + x13_11)) (pI) (by first | omega | exact pI) (pI) HC0.out;have HR482:=aM (Kd.iQ (h1:=fun _=>rfl) (hA19 _ (Kd.iF HR0.out)));have HC482:=aM hC19;clear hA19 hC19 hi019 hsz19;have hcv20:=Kd.eX (P:=Tryz.prog) (A:=A19) (c:=(c0 - x12_1.toNat)) Tryz.underlying22 Tryz.underlying5 Tryz.underlying9 (Kd.fF HR482.out HB.out);(try have hcd21:=fun nq_:Nat=>Kd.eX (P:=Tryz.prog) (A:=A19) (c:=(c0 - x12_1.toNat)) Tryz.underlying22 Tryz.underlying5 Tryz.underlying9 (Kd.iw (Kd.fF HR482.out HB.out) nq_));(try have hce21:=Kd.eX (P:=Tryz.prog) (A:=A19) (c:=(c0 - x12_1.toNat)) Tryz.underlying22 Tryz.underlying5 Tryz.underlying9 (Kd.fF HR482.out HB.out));(try (have hln21:((l0.take ((wrap64 (x12_1 + x13_11)):Int).toNat).drop (x12_1:Int).toNat).length = ((wrap64 (x12_1 + x13_11)):Int).toNat - (x12_1:Int).toNat:=by have h_:=of_decide_eq_true (show decide ((wrap64 (x12_1 + x13_11)) ≤ (l0.length:Int)) = true by assumption);rw [List.length_drop,List.length_take];omega));(try rw [hln21] at hce21);(try simp only [hln21] at hcd21);(try clear hln21);go_upto_region 9 with (fail);go_cut [59] (fun v59 wc=>∃ (kq:Nat) (x59_17:Bool),v59 = .bool x59_17 ∧ ae (dF.j2 kq l0 a2 a3 x9_1 x10_1 x11_1 x12_1 x14_11 (strOfNums ((l0.take ((wrap64 (x12_1 + x13_11)):Int).toNat).drop (x12_1:Int).toNat)) x59_17 = some r) ∧ ae (kq ≤ kj11) ∧ ae (Kd.R kS 84 wc w.heap.size (fun _=>True) u9 x9_1) ∧ ae (Below w.heap.size w wc))
            case first =>
             have H:=HC18.out;clear HC18;by_cases c22:2 + a3.size ≤ 9223372036854775807
             ·rw [if_pos c22] at H;have c22b0:=eq_true c22;have c22b1:=decide_eq_true c22;try have c22b2:(9223372036854775807 < 2 + a3.size) = False:=eq_false (Nat.not_lt.2 c22)
              by_cases c23:(strOfNums ((l0.take ((wrap64 (x12_1 + x13_11)):Int).toNat).drop (x12_1:Int).toNat)).toList = ((⟨#[45,45]⟩ : ByteArray) ++ a3).toList
              ·rw [if_pos c23] at H;have c23b0:((strOfNums ((l0.take ((wrap64 (x12_1 + x13_11)):Int).toNat).drop (x12_1:Int).toNat)).toList == ((⟨#[45,45]⟩ : ByteArray) ++ a3).toList) = true:=beq_iff_eq.mpr c23;have c23b1:((strOfNums ((l0.take ((wrap64 (x12_1 + x13_11)):Int).toNat).drop (x12_1:Int).toNat)).toList != ((⟨#[45,45]⟩ : ByteArray) ++ a3).toList) = false:=bne_eq_false_iff_eq.mpr c23;clear c23;(first | rw [c23b0] | (simp only [bV,dh];rw [c23b0]) | skip);have H':=aM H;clear H;go_wp2;go_meet
               case rel=>exact ⟨_,(true),bS,H',⟨jM HK1.out HJ11.out⟩,⟨bR HO_9⟩,⟨bB⟩⟩
              rw [if_neg c23] at H;have c23b0:((strOfNums ((l0.take ((wrap64 (x12_1 + x13_11)):Int).toNat).drop (x12_1:Int).toNat)).toList == ((⟨#[45,45]⟩ : ByteArray) ++ a3).toList) = false:=beq_eq_false_iff_ne.mpr c23;have c23b1:((strOfNums ((l0.take ((wrap64 (x12_1 + x13_11)):Int).toNat).drop (x12_1:Int).toNat)).toList != ((⟨#[45,45]⟩ : ByteArray) ++ a3).toList) = true:=bne_iff_ne.mpr c23;(first | rw [c23b0] | (simp only [bV,dh];rw [c23b0]) | skip);by_cases c24:((⟨#[45,45]⟩ : ByteArray) ++ a3).size + 2 ≤ 9223372036854775807
              ·rw [if_pos c24] at H;have c24b0:=eq_true c24;have c24b1:=decide_eq_true c24;try have c24b2:(9223372036854775807 < ((⟨#[45,45]⟩ : ByteArray) ++ a3).size + 2) = False:=eq_false (Nat.not_lt.2 c24)
               (try (have c24b3:(9223372036854775807 < 2 + a3.size + 2) = False:=by have h_:=c24b2;simp only [ByteArray.size_append] at h_;exact h_));have H':=aM H;clear H;go_wp2;go_meet
               case rel=>exact ⟨_,(((strOfNums ((l0.take ((wrap64 (x12_1 + x13_11)):Int).toNat).drop (x12_1:Int).toNat)).toList == (((⟨#[45,45]⟩ : ByteArray) ++ a3) ++ (⟨#[45,45]⟩ : ByteArray)).toList)),bS,H',⟨jM HK1.out HJ11.out⟩,⟨bR HO_9⟩,⟨bB⟩⟩
              rw [if_neg c24] at H;exact aB H
             rw [if_neg c22] at H;exact aB H
            case rest =>
             clear HC18;try clear c7
             try clear c7b0
             try clear c8
             try clear c8b0
             try clear c8b1
             try clear c9
             try clear c9b0
             try clear c9b1
             try clear c10
             try clear c10b0
             try clear c10b1
             try clear c15
             try clear c15b0
             try clear c15b1
             try clear c16
             try clear c16b0
             try clear c16b1
             try clear c17
             try clear c17b0
             try clear c17b1
             try clear hcv20
             obtain ⟨kq,x59_17,rfl,HA,HJ17,HO_9,HB⟩:=hcut;have hg1_:=(HB.out.cell (World.block_lt_of_cell? _ _ HG_.out)).trans HG_.out
             cases kq with
             | zero=>exact absurd HA.out (by simp [dF.j2])
             | succ kj17 =>
              have H:=HA.out;clear HA;simp only [dF.j2] at H;by_cases c25:x59_17 = true
              ·subst c25;replace H:(if x10_1 = true then (if x9_1.length < 8796093022208 then ((some (x9_1 ++ [(⟨x11_1,mx x11_1 (wrap64 (x12_1 - 1))⟩ : df)]:List (df))).bind fun y483=>(if 2 + a3.size ≤ 9223372036854775807 then (if ((strOfNums ((l0.take ((wrap64 (x12_1 + x13_11)):Int).toNat).drop (x12_1:Int).toNat)).toList = ((⟨#[45,45]⟩ : ByteArray) ++ a3).toList) then (dF.l0 kj17 l0 a2 a3 y483 ((strOfNums ((l0.take ((wrap64 (x12_1 + x13_11)):Int).toNat).drop (x12_1:Int).toNat)).toList == ((⟨#[45,45]⟩ : ByteArray) ++ a3).toList) x14_11 x14_11) else (some y483)) else (none))) else (none)) else (if 2 + a3.size ≤ 9223372036854775807 then (if ((strOfNums ((l0.take ((wrap64 (x12_1 + x13_11)):Int).toNat).drop (x12_1:Int).toNat)).toList = ((⟨#[45,45]⟩ : ByteArray) ++ a3).toList) then (dF.l0 kj17 l0 a2 a3 x9_1 ((strOfNums ((l0.take ((wrap64 (x12_1 + x13_11)):Int).toNat).drop (x12_1:Int).toNat)).toList == ((⟨#[45,45]⟩ : ByteArray) ++ a3).toList) x14_11 x14_11) else (some x9_1)) else (none))) = some r:=dS;by_cases c26:x10_1 = true
               ·subst c26;replace H:(if x9_1.length < 8796093022208 then ((some (x9_1 ++ [(⟨x11_1,mx x11_1 (wrap64 (x12_1 - 1))⟩ : df)]:List (df))).bind fun y483=>(if 2 + a3.size ≤ 9223372036854775807 then (if ((strOfNums ((l0.take ((wrap64 (x12_1 + x13_11)):Int).toNat).drop (x12_1:Int).toNat)).toList = ((⟨#[45,45]⟩ : ByteArray) ++ a3).toList) then (dF.l0 kj17 l0 a2 a3 y483 ((strOfNums ((l0.take ((wrap64 (x12_1 + x13_11)):Int).toNat).drop (x12_1:Int).toNat)).toList == ((⟨#[45,45]⟩ : ByteArray) ++ a3).toList) x14_11 x14_11) else (some y483)) else (none))) else (none)) = some r:=dS;obtain ⟨ji27,hji27⟩ : ∃ j_:Int,(mx x11_1 (wrap64 (x12_1 - 1))) = j_:=⟨_,rfl⟩;replace H:(if x9_1.length < 8796093022208 then ((some (x9_1 ++ [(⟨x11_1,ji27⟩ : df)]:List (df))).bind fun y483=>(if 2 + a3.size ≤ 9223372036854775807 then (if ((strOfNums ((l0.take ((wrap64 (x12_1 + x13_11)):Int).toNat).drop (x12_1:Int).toNat)).toList = ((⟨#[45,45]⟩ : ByteArray) ++ a3).toList) then (dF.l0 kj17 l0 a2 a3 y483 ((strOfNums ((l0.take ((wrap64 (x12_1 + x13_11)):Int).toNat).drop (x12_1:Int).toNat)).toList == ((⟨#[45,45]⟩ : ByteArray) ++ a3).toList) x14_11 x14_11) else (some y483)) else (none))) else (none)) = some r:=by first | (rw [hji27] at H;exact H) | (simp only [hji27] at H ⊢;exact H)
                have hji27_:(if x11_1 < (wrap64 (x12_1 - 1)) then (wrap64 (x12_1 - 1)) else x11_1) = ji27:=hji27;by_cases c28:x9_1.length < 8796093022208
                ·rw [if_pos c28] at H;have LMc28:=aM c28;clear c28;obtain ⟨y483,hy483⟩ : ∃ y_:List (df),y_ = (x9_1 ++ [(⟨x11_1,ji27⟩ : df)]):=⟨_,rfl⟩;replace H:(if 2 + a3.size ≤ 9223372036854775807 then (if ((strOfNums ((l0.take ((wrap64 (x12_1 + x13_11)):Int).toNat).drop (x12_1:Int).toNat)).toList = ((⟨#[45,45]⟩ : ByteArray) ++ a3).toList) then (dF.l0 kj17 l0 a2 a3 y483 ((strOfNums ((l0.take ((wrap64 (x12_1 + x13_11)):Int).toNat).drop (x12_1:Int).toNat)).toList == ((⟨#[45,45]⟩ : ByteArray) ++ a3).toList) x14_11 x14_11) else (some y483)) else (none)) = some r:=bg hy483;have Ny483:=aM hy483;clear hy483;by_cases c29:2 + a3.size ≤ 9223372036854775807
                 ·rw [if_pos c29] at H;have c29b0:=eq_true c29;have c29b1:=decide_eq_true c29;try have c29b2:(9223372036854775807 < 2 + a3.size) = False:=eq_false (Nat.not_lt.2 c29)
                  by_cases c30:((strOfNums ((l0.take ((wrap64 (x12_1 + x13_11)):Int).toNat).drop (x12_1:Int).toNat)).toList = ((⟨#[45,45]⟩ : ByteArray) ++ a3).toList)
                  ·rw [if_pos c30] at H;have c30b0:((strOfNums ((l0.take ((wrap64 (x12_1 + x13_11)):Int).toNat).drop (x12_1:Int).toNat)).toList == ((⟨#[45,45]⟩ : ByteArray) ++ a3).toList) = true:=beq_iff_eq.mpr c30;have c30b1:((strOfNums ((l0.take ((wrap64 (x12_1 + x13_11)):Int).toNat).drop (x12_1:Int).toNat)).toList != ((⟨#[45,45]⟩ : ByteArray) ++ a3).toList) = false:=bne_eq_false_iff_eq.mpr c30;clear c30;have H':=aM H;clear H;go_wp2_with (first | ((with_reducible refine gq (b:=.append) (xs:=#[.tmp 61,.tmp 68]) rfl ?_);at_builtin;refine Kd.kG kS (w0:=w) w.heap.size rfl (.tmp 61) (.tmp 68) 82 84 (.agg #[(.int .i64 0),(.int .i64 0)]) 16 rfl Tryz.underlying82 vS rfl (by decide) (by omega) u9 x9_1 (⟨x11_1,ji27⟩ : df) [.int .i64 x11_1,.int .i64 ji27] (fun _=>True) (fun _=>False) rfl rfl ?aP (fun _ hk=>hk.elim) ?aF ?aO ?aB ?aS ?aL ?_;(case aP=>exact xw _ _ _ (⟨x11_1,ji27⟩ : df));(case aB=>exact bB);(case aF=>exact (fun _ _=>trivial));(case aO=>exact (bR HO_9));(case aS=>exact (aJ bB));(case aL=>have:=LMc28.out;omega);intro v484 w31 ho hb hg hat;rw [← Ny483.out] at ho;have n0_:=aM hb;have n1_:=aM ho;clear HB;clear HO_9;have HB:=n0_;have HO485:=n1_;clear n0_ n1_;clear ho hb hg hat));go_roundg kj17
                   case measure=>have:=HK1.out;have:=HJ11.out;have:=HJ17.out;omega
                   case rel=>exact ⟨(y483),(((strOfNums ((l0.take ((wrap64 (x12_1 + x13_11)):Int).toNat).drop (x12_1:Int).toNat)).toList == ((⟨#[45,45]⟩ : ByteArray) ++ a3).toList)),(x14_11),(x14_11),bS,bS,bS,H',⟨lT HK1.out HJ11.out HJ17.out⟩,⟨bR HO485⟩,⟨bB⟩⟩
                  rw [if_neg c30] at H;have c30b0:((strOfNums ((l0.take ((wrap64 (x12_1 + x13_11)):Int).toNat).drop (x12_1:Int).toNat)).toList == ((⟨#[45,45]⟩ : ByteArray) ++ a3).toList) = false:=beq_eq_false_iff_ne.mpr c30;have c30b1:((strOfNums ((l0.take ((wrap64 (x12_1 + x13_11)):Int).toNat).drop (x12_1:Int).toNat)).toList != ((⟨#[45,45]⟩ : ByteArray) ++ a3).toList) = true:=bne_iff_ne.mpr c30;obtain rfl:=Option.some.inj H;go_wp2_with (first | ((with_reducible refine gq (b:=.append) (xs:=#[.tmp 61,.tmp 68]) rfl ?_);at_builtin;refine Kd.kG kS (w0:=w) w.heap.size rfl (.tmp 61) (.tmp 68) 82 84 (.agg #[(.int .i64 0),(.int .i64 0)]) 16 rfl Tryz.underlying82 vS rfl (by decide) (by omega) u9 x9_1 (⟨x11_1,ji27⟩ : df) [.int .i64 x11_1,.int .i64 ji27] (fun _=>True) (fun _=>False) rfl rfl ?aP (fun _ hk=>hk.elim) ?aF ?aO ?aB ?aS ?aL ?_;(case aP=>exact xw _ _ _ (⟨x11_1,ji27⟩ : df));(case aB=>exact bB);(case aF=>exact (fun _ _=>trivial));(case aO=>exact (bR HO_9));(case aS=>exact (aJ bB));(case aL=>have:=LMc28.out;omega);intro v484 w32 ho hb hg hat;rw [← Ny483.out] at ho;have n0_:=aM hb;have n1_:=aM ho;clear HB;clear HO_9;have HB:=n0_;have HO485:=n1_;clear n0_ n1_;clear ho hb hg hat));go_ret;exact ⟨_,by first | rfl | (simp [jq,jB] <;> rfl) | (simp only [← hji27];first | rfl | (simp [jq,jB] <;> rfl)) | (simp [*,jq,jB] <;> rfl),bR HO485,bB⟩
                 rw [if_neg c29] at H;exact aB H
                rw [if_neg c28] at H;exact aB H
               replace c26:=Bool.eq_false_iff.mpr c26;subst c26;replace H:(if 2 + a3.size ≤ 9223372036854775807 then (if ((strOfNums ((l0.take ((wrap64 (x12_1 + x13_11)):Int).toNat).drop (x12_1:Int).toNat)).toList = ((⟨#[45,45]⟩ : ByteArray) ++ a3).toList) then (dF.l0 kj17 l0 a2 a3 x9_1 ((strOfNums ((l0.take ((wrap64 (x12_1 + x13_11)):Int).toNat).drop (x12_1:Int).toNat)).toList == ((⟨#[45,45]⟩ : ByteArray) ++ a3).toList) x14_11 x14_11) else (some x9_1)) else (none)) = some r:=dP;by_cases c33:2 + a3.size ≤ 9223372036854775807
               ·rw [if_pos c33] at H;have c33b0:=eq_true c33;have c33b1:=decide_eq_true c33;try have c33b2:(9223372036854775807 < 2 + a3.size) = False:=eq_false (Nat.not_lt.2 c33)
                by_cases c34:((strOfNums ((l0.take ((wrap64 (x12_1 + x13_11)):Int).toNat).drop (x12_1:Int).toNat)).toList = ((⟨#[45,45]⟩ : ByteArray) ++ a3).toList)
                ·rw [if_pos c34] at H;have c34b0:((strOfNums ((l0.take ((wrap64 (x12_1 + x13_11)):Int).toNat).drop (x12_1:Int).toNat)).toList == ((⟨#[45,45]⟩ : ByteArray) ++ a3).toList) = true:=beq_iff_eq.mpr c34;have c34b1:((strOfNums ((l0.take ((wrap64 (x12_1 + x13_11)):Int).toNat).drop (x12_1:Int).toNat)).toList != ((⟨#[45,45]⟩ : ByteArray) ++ a3).toList) = false:=bne_eq_false_iff_eq.mpr c34;clear c34;have H':=aM H;clear H;go_wp2;go_roundg kj17
                 case measure=>have:=HK1.out;have:=HJ11.out;have:=HJ17.out;omega
                 case rel=>exact ⟨(x9_1),(((strOfNums ((l0.take ((wrap64 (x12_1 + x13_11)):Int).toNat).drop (x12_1:Int).toNat)).toList == ((⟨#[45,45]⟩ : ByteArray) ++ a3).toList)),(x14_11),(x14_11),bS,bS,bS,H',⟨lT HK1.out HJ11.out HJ17.out⟩,⟨bR HO_9⟩,⟨bB⟩⟩
                rw [if_neg c34] at H;have c34b0:((strOfNums ((l0.take ((wrap64 (x12_1 + x13_11)):Int).toNat).drop (x12_1:Int).toNat)).toList == ((⟨#[45,45]⟩ : ByteArray) ++ a3).toList) = false:=beq_eq_false_iff_ne.mpr c34;have c34b1:((strOfNums ((l0.take ((wrap64 (x12_1 + x13_11)):Int).toNat).drop (x12_1:Int).toNat)).toList != ((⟨#[45,45]⟩ : ByteArray) ++ a3).toList) = true:=bne_iff_ne.mpr c34;obtain rfl:=Option.some.inj H;go_wp2;go_ret;exact ⟨_,bE,bR HO_9,bB⟩
               rw [if_neg c33] at H;exact aB H
              replace c25:=Bool.eq_false_iff.mpr c25;subst c25;replace H:(dF.l0 kj17 l0 a2 a3 x9_1 x10_1 x11_1 x14_11) = some r:=dP;have H':=aM H;clear H;go_wp2;go_roundg kj17
              case measure=>have:=HK1.out;have:=HJ11.out;have:=HJ17.out;omega
              case rel=>exact ⟨(x9_1),(x10_1),(x11_1),(x14_11),bS,bS,bS,H',⟨lT HK1.out HJ11.out HJ17.out⟩,⟨bR HO_9⟩,⟨bB⟩⟩
           rw [if_neg c17] at H;exact aB H
          rw [if_neg c16] at H;exact aB H
         rw [if_neg c15] at H;exact aB H
      rw [if_neg c10] at H;exact aB H
     rw [if_neg c9] at H;exact aB H
    rw [if_neg c8] at H;exact aB H
   rw [if_neg c7] at H;have c7b0:=decide_eq_false c7;clear c7;by_cases c35:x10_1 = true
   ·subst c35;replace H:(if x9_1.length < 8796093022208 then (some (x9_1 ++ [(⟨x11_1,a2⟩ : df)])) else (none)) = some r:=dS;by_cases c36:x9_1.length < 8796093022208
    ·rw [if_pos c36] at H;have LMc36:=aM c36;clear c36;obtain ⟨y477,hy477⟩ : ∃ y_:List (df),y_ = (x9_1 ++ [(⟨x11_1,a2⟩ : df)]):=⟨_,rfl⟩;replace H:(some y477) = some r:=bg hy477;have Ny477:=aM hy477;clear hy477;obtain rfl:=Option.some.inj H;go_wp2_with (first | ((with_reducible refine gq (b:=.append) (xs:=#[.tmp 80,.tmp 84]) rfl ?_);at_builtin;refine Kd.kG kS (w0:=w) w.heap.size rfl (.tmp 80) (.tmp 84) 82 84 (.agg #[(.int .i64 0),(.int .i64 0)]) 16 rfl Tryz.underlying82 vS rfl (by decide) (by omega) u9 x9_1 (⟨x11_1,a2⟩ : df) [.int .i64 x11_1,.int .i64 a2] (fun _=>True) (fun _=>False) rfl rfl ?aP (fun _ hk=>hk.elim) ?aF ?aO ?aB ?aS ?aL ?_;(case aP=>exact xw _ _ _ (⟨x11_1,a2⟩ : df));(case aB=>exact bB);(case aF=>exact (fun _ _=>trivial));(case aO=>exact (bR HO_9));(case aS=>exact (aJ bB));(case aL=>have:=LMc36.out;omega);intro v478 w37 ho hb hg hat;rw [← Ny477.out] at ho;have n0_:=aM hb;have n1_:=aM ho;clear HB;clear HO_9;have HB:=n0_;have HO479:=n1_;clear n0_ n1_;clear ho hb hg hat));go_ret;exact ⟨_,bE,bR HO479,bB⟩
    rw [if_neg c36] at H;exact aB H
   replace c35:=Bool.eq_false_iff.mpr c35;subst c35;replace H:(some x9_1) = some r:=dP;obtain rfl:=Option.some.inj H;go_wp2;go_ret;exact ⟨_,bE,bR HO_9,bB⟩
end Go.Proofs.YtecpanfndodjgaaGreatDoor.PNested
