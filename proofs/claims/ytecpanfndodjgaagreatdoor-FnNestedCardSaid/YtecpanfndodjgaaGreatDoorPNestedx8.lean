/- Part of the proof;words that it uses. -/
import Derived.Test.YtecpanfndodjgaaGreatDoorPNestedx0
import Derived.Test.YtecpanfndodjgaaGreatDoorPNestedx5
import Derived.Test.YtecpanfndodjgaaGreatDoorPNestedx6
import Derived.Test.YtecpanfndodjgaaGreatDoorPNestedx7
namespace Go.Proofs.YtecpanfndodjgaaGreatDoor.PNested
set_option maxHeartbeats 8000000
set_option maxRecDepth 100000
open Go.RowKit Go.Proofs.YtecpanfndodjgaaGreatDoorW.PrintWords Go.Proofs.YtecpanfndodjgaaGreatDoorW.PrintLast Go.Proofs.YtecpanfndodjgaaGreatDoorW.PrintMore
attribute [local go_sem] jJ jL
set_option linter.unusedVariables false
set_option linter.unusedSimpArgs false
mutual
def bC.j0:Nat → Int → Int → Int → Int → Int → List (ag) → Int → Bool → ByteArray → List Int → List (aH) → Int → Int → Int → Int → Int → Int → Int → Option ((List (aH)))
 | 0,_,_,_,_,_,_,_,_,_,_,_,_,_,_,_,_,_,_=>none
 | k + 1,x1,x2,x3,x4,x5,x12,x13,x14,x16,x487000,x487001,x497000,x497001,x497002,x497003,x497004,x497005,x497006=>if x14 = true then ((gu.f k x12 (⟨#[67,111,110,116,101,110,116,45,84,114,97,110,115,102,101,114,45,69,110,99,111,100,105,110,103]⟩ : ByteArray)).bind fun bt506=>((oC.f k bt506.1).bind fun t508=>(bC.j1 k x5 x16 x487000 x487001 x497000 x497001 t508 (wrap64 (x1 + x13)) x2 x3 x4))) else (bC.j1 k x5 x16 x487000 x487001 x497000 x497001 1 x1 x2 x3 x4)
def bC.j1:Nat → Int → ByteArray → List Int → List (aH) → Int → Int → Int → Int → Int → Int → Int → Option ((List (aH)))
 | 0,_,_,_,_,_,_,_,_,_,_,_=>none
 | k + 1,x5,x16,x487000,x487001,x497000,x497001,x497002,x497003,x497004,x497005,x497006=>if x487001.length < 2513169434916 then ((some (x487001 ++ [(⟨x497000,x497001,x497002,x497003,x497004,x497005,x497006⟩ : aH)]:List (aH))).bind fun y509=>(if x497000 = 2 then (bC.j2 k x5 x16 (decide ((wrap64 (x5 + 1)) ≥ 3)) x487000 y509 x497000 x497001 x497002 x497003 x497004 x497005 x497006) else (bC.j2 k x5 x16 true x487000 y509 x497000 x497001 x497002 x497003 x497004 x497005 x497006))) else (none)
def bC.j2:Nat → Int → ByteArray → Bool → List Int → List (aH) → Int → Int → Int → Int → Int → Int → Int → Option ((List (aH)))
 | 0,_,_,_,_,_,_,_,_,_,_,_,_=>none
 | k + 1,x5,x16,x95,x487000,x487001,x497000,x497001,x497002,x497003,x497004,x497005,x497006=>if x95 = true then (some x487001) else ((eu.f k x16 (⟨#[98,111,117,110,100,97,114,121,61]⟩ : ByteArray)).bind fun bt512=>(if bt512.2 = true then ((kM.f (bt512.1.size:Int) 1 20).bind fun t514=>(bC.j3 k x5 bt512.1 (!t514) x487000 x487001 x497000 x497001 x497002 x497003 x497004 x497005 x497006)) else (bC.j3 k x5 bt512.1 true x487000 x487001 x497000 x497001 x497002 x497003 x497004 x497005 x497006)))
def bC.j3:Nat → Int → ByteArray → Bool → List Int → List (aH) → Int → Int → Int → Int → Int → Int → Int → Option ((List (aH)))
 | 0,_,_,_,_,_,_,_,_,_,_,_,_=>none
 | k + 1,x5,x21,x108,x487000,x487001,x497000,x497001,x497002,x497003,x497004,x497005,x497006=>if x108 = true then (some x487001) else ((mW.f x487001).bind fun t515=>((dF.f k x487000 x497003 x497004 x21).bind fun t516=>(bC.l0 k x5 (wrap64 (t515 - 1)) t516 (t516.length:Int) 0 x487000 x487001)))
def bC.l0:Nat → Int → Int → List (df) → Int → Int → List Int → List (aH) → Option ((List (aH)))
 | 0,_,_,_,_,_,_,_=>none
 | k + 1,x5,x23,x121,x122,x123,x487000,x487001=>if x123 < x122 then (if 0 ≤ x123 then (if x123 < (x121.length:Int) then ((bC.f k x487000 ((ji x121 x123).f0) ((ji x121 x123).f1) x23 (wrap64 (x123 + 1)) (wrap64 (x5 + 1)) x487001).bind fun t521=>(bC.l0 k x5 x23 x121 x122 (wrap64 (x123 + 1)) x487000 t521)) else (none)) else (none)) else (some x487001)
def bC.f:Nat → List Int → Int → Int → Int → Int → Int → List (aH) → Option ((List (aH)))
 | 0,_,_,_,_,_,_,_=>none
 | k + 1,l0,a1,a2,a3,a4,a5,l6=>if (l6.length:Int) = 8 then (some l6) else (if 0 ≤ a1 then (if a1 ≤ a2 then (if a2 ≤ (l0.length:Int) then ((dV.f k ((l0.take (a2:Int).toNat).drop (a1:Int).toNat)).bind fun bt491=>(if bt491.2.2 = true then ((gu.f k bt491.1 (⟨#[67,111,110,116,101,110,116,45,84,121,112,101]⟩ : ByteArray)).bind fun bt497=>(if bt497.2 = true then ((eQ.f k bt497.1).bind fun bt499=>(bC.j0 k a1 a2 a3 a4 a5 bt491.1 bt491.2.1 bt491.2.2 bt497.1 l0 l6 bt499.1 bt499.2.1 bt499.2.2.1 bt499.2.2.2.1 bt499.2.2.2.2.1 bt499.2.2.2.2.2.1 bt499.2.2.2.2.2.2)) else (bC.j0 k a1 a2 a3 a4 a5 bt491.1 bt491.2.1 bt491.2.2 (⟨#[]⟩ : ByteArray) l0 l6 1 1 0 0 0 0 0))) else (bC.j0 k a1 a2 a3 a4 a5 bt491.1 bt491.2.1 bt491.2.2 (⟨#[]⟩ : ByteArray) l0 l6 3 0 0 0 0 0 0))) else (none)) else (none)) else (none))
end
def bC.T12:Bool × List (List Nat × List Nat):=(true,[([],[]),([],[]),([1],[1]),([2],[2]),([3],[3]),([],[]),([5],[5]),([4,6],[4,6]),([0,0,1,2,3,4,5,6,7],[0]),([8,0,1,2,3,4,5,6,7],[8]),([9,7,7,0,1,2,3,4,5,6,7],[7,9])])
def bC.vZ:List Nat:=[0,0,2,6,14,0,32,126,255,511,1023]
theorem bC.vw:gm .any (opsOf Tryz.f31 12) = bC.T12:=by kernel_rfl
theorem bC.xg:lW bC.T12.2 bC.vZ = true:=by kernel_rfl
theorem bC.calls (k:Nat):∀ (A0:Option Addr) (c0:Nat) (l0:List Int) (a1:Int) (a2:Int) (a3:Int) (a4:Int) (a5:Int) (P6_:Nat → Prop) (u9000_:Value) (l6:List (aH)) (r:List (aH)) (w0 w:World) (gb486:Nat) (hg_:w.heap[gb486]? = some (.cells #[.slice A0 l0.length c0,u9000_] 63 (0,0))) (hge_:w0.heap.size ≤ gb486) (hgp_:P6_ gb486) (hB:Below w0.heap.size w0 w) (hr0:∀ W_,Kept w W_ (fun k_=>P6_ k_) → Kd.C (Kd.int .u8) W_ A0 l0.length l0) (hc0:l0.length ≤ c0) (ho6:Kd.R k30 30 w w0.heap.size P6_ u9000_ l6) (h:bC.f k l0 a1 a2 a3 a4 a5 l6 = some r),
  Calls Tryz.prog 31 #[.pointer (some ⟨gb486,0,none⟩),.int .i64 a1,.int .i64 a2,.int .i64 a3,.int .i64 a4,.int .i64 a5] w fun e w'=>e = .returned (.tuple #[]) ∧ ∃ v0_:Value,w'.heap[gb486]? = some (.cells #[.slice A0 l0.length c0,v0_] 63 (0,0)) ∧ Kd.R k30 30 w' w0.heap.size (fun k_=>(P6_ k_ ∨ w.heap.size ≤ k_)) v0_ r ∧ Below w0.heap.size w0 w' ∧ Kept w w' (fun k_=>P6_ k_):=by
 induction k using Nat.strongRecOn with
 | _ k ih =>
 intro A0 c0 l0 a1 a2 a3 a4 a5 P6_ u9000_ l6 r w0 w gb486 hg_ hge_ hgp_ hB hr0 hc0 ho6 h;have hu63_:=Tryz.underlying63;have BK486:=aM hg_;have GE486:=aM hge_;have GW486:=aM hgp_;clear hg_ hge_ hgp_
 cases k with
 | zero=>exact absurd h (by simp [bC.f])
 | succ k =>
 simp only [bC.f] at h;have hu63:=Tryz.underlying63;have hu30:=Tryz.underlying30;have hu84:=Tryz.underlying84;have HR0:=aM hr0;have HC0:=aM hc0;clear hr0 hc0;have HO6:=aM (show Kd.R k30 30 w w0.heap.size (fun k_=>(P6_ k_ ∨ w.heap.size ≤ k_)) u9000_ l6 from Kd.aU ho6 (fun k_ hk=>(.inl hk)));have HK:=aM (Kept.refl w (fun k_=>P6_ k_));have HW0:=aM hB.size;have HB:=aM hB;clear hB;have H:(if (l6.length:Int) = 8 then (some l6) else (if 0 ≤ a1 then (if a1 ≤ a2 then (if a2 ≤ (l0.length:Int) then ((dV.f k ((l0.take (a2:Int).toNat).drop (a1:Int).toNat)).bind fun bt491=>(if bt491.2.2 = true then ((gu.f k bt491.1 (⟨#[67,111,110,116,101,110,116,45,84,121,112,101]⟩ : ByteArray)).bind fun bt497=>(if bt497.2 = true then ((eQ.f k bt497.1).bind fun bt499=>(bC.j0 k a1 a2 a3 a4 a5 bt491.1 bt491.2.1 bt491.2.2 bt497.1 l0 l6 bt499.1 bt499.2.1 bt499.2.2.1 bt499.2.2.2.1 bt499.2.2.2.2.1 bt499.2.2.2.2.2.1 bt499.2.2.2.2.2.2)) else (bC.j0 k a1 a2 a3 a4 a5 bt491.1 bt491.2.1 bt491.2.2 (⟨#[]⟩ : ByteArray) l0 l6 1 1 0 0 0 0 0))) else (bC.j0 k a1 a2 a3 a4 a5 bt491.1 bt491.2.1 bt491.2.2 (⟨#[]⟩ : ByteArray) l0 l6 3 0 0 0 0 0 0))) else (none)) else (none)) else (none))) = some r:=h;clear h;have HQ_:=aM H;clear H;obtain ⟨Ao9,co9,eo9⟩:=Kd.bn HO6.out;subst eo9;obtain ⟨hcz11_0,hcz11_1,hfz11_0,hfz11_1⟩:=cC2 BK486.out;have H:=HQ_.out;clear HQ_;by_cases c8:(l6.length:Int) = 8
 ·rw [if_pos c8] at H;have c8b0:((l6.length:Int) == 8) = true:=beq_iff_eq.mpr c8;have c8b1:((l6.length:Int) != 8) = false:=bne_eq_false_iff_eq.mpr c8;clear c8;obtain rfl:=Option.some.inj H;(try simp only [c8b0,c8b1]);go_enter Tryz.func31,Tryz.ntmps31;go_wp2;(try simp only [Exit.inBlock,Exit.then]);first | refine bodyPost_ret (results_none rfl _ _ _) rfl ?_ | refine bodyPost_end (results_none rfl _ _ _) rfl ?_
  exact ⟨rfl,_,bL BK486,bR HO6,bG GE486,rU GW486.out⟩
 rw [if_neg c8] at H;have c8b0:((l6.length:Int) == 8) = false:=beq_eq_false_iff_ne.mpr c8;have c8b1:((l6.length:Int) != 8) = true:=bne_iff_ne.mpr c8;(try simp only [c8b0,c8b1]);by_cases c12:0 ≤ a1
 ·rw [if_pos c12] at H;have c12b0:=eq_true c12;have c12b1:=decide_eq_true c12;clear c12;by_cases c13:a1 ≤ a2
  ·rw [if_pos c13] at H;have c13b0:=eq_true c13;have c13b1:=decide_eq_true c13;clear c13;by_cases c14:a2 ≤ (l0.length:Int)
   ·rw [if_pos c14] at H;have c14b0:=eq_true c14;have c14b1:=decide_eq_true c14;(try have c14z:=eq_true (show (a2:Int) ≤ (c0:Int) from (by have h_:=HC0.out;omega)));clear c14;obtain ⟨y487,hy487⟩ : ∃ y_:List Int,y_ = ((l0.take (a2:Int).toNat).drop (a1:Int).toNat):=⟨_,rfl⟩;replace H:((dV.f k y487).bind fun bt491=>(if bt491.2.2 = true then ((gu.f k bt491.1 (⟨#[67,111,110,116,101,110,116,45,84,121,112,101]⟩ : ByteArray)).bind fun bt497=>(if bt497.2 = true then ((eQ.f k bt497.1).bind fun bt499=>(bC.j0 k a1 a2 a3 a4 a5 bt491.1 bt491.2.1 bt491.2.2 bt497.1 l0 l6 bt499.1 bt499.2.1 bt499.2.2.1 bt499.2.2.2.1 bt499.2.2.2.2.1 bt499.2.2.2.2.2.1 bt499.2.2.2.2.2.2)) else (bC.j0 k a1 a2 a3 a4 a5 bt491.1 bt491.2.1 bt491.2.2 (⟨#[]⟩ : ByteArray) l0 l6 1 1 0 0 0 0 0))) else (bC.j0 k a1 a2 a3 a4 a5 bt491.1 bt491.2.1 bt491.2.2 (⟨#[]⟩ : ByteArray) l0 l6 3 0 0 0 0 0 0))) = some r:=bg hy487;have Ny487:=aM hy487;clear hy487;replace H:=oB H;obtain ⟨⟨t491,t492,t493⟩,A15,H⟩:=H;try dsimp only at H
    have HC16:=aM H;clear H;have q20:(a2:Int) ≤ ((l0.length:Int):Int):=pI;obtain ⟨i020,hi020,_,hsz20,_⟩:=info_parts info5;have hroom20:l0.length ≤ c0:=HC0.out;have hC20:Kd.C (Kd.int .u8) _ A0 l0.length l0:=(Kd.tX HR0.out HK.out);have ql20:(a1:Int) ≤ (a2:Int):=pI;have q020:(0:Int) ≤ (a1:Int):=pI;have hcut20:=EO (P:=Tryz.prog) 22 5 .i64 .i64 Tryz.underlying22 hi020 1 hsz20 A0 l0.length c0 a1 a2 q020 ql20 q20 hroom20;have hr20:=Kd.EI (lo:=(a1:Int).toNat) (hi:=(a2:Int).toNat) (c:=c0) hC20 (by omega) (by omega) hroom20;obtain ⟨A20,hA20⟩ : ∃ A1,A1 = (if c0 = (a1:Int).toNat then A0 else (A0:Option Addr).map (·.add ((a1:Int).toNat * 1))):=⟨_,rfl⟩;obtain ⟨c20,hc20⟩ : ∃ c1,c1 = c0 - (a1:Int).toNat:=⟨_,rfl⟩;have hy20:y487.length = (a2:Int).toNat - (a1:Int).toNat:=(by rw [Ny487.out,List.length_drop,List.length_take] <;> omega);rw [show ((l0).take (a2:Int).toNat).drop (a1:Int).toNat = y487 from Ny487.out.symm] at hr20;replace hr20:Kd.C (Kd.int .u8) _ A20 y487.length y487:=(by rw [hA20];exact hr20);rw [← hy20,← hA20,← hc20] at hcut20;have HR490:=aM hr20;have HC490:=aM (show y487.length ≤ c20 from by rw [hy20,hc20];exact Nat.sub_le_sub_right (Nat.le_trans (by omega) hroom20) _);clear hr20 hC20 hroom20 hi020 hsz20 hc20;have KY20:=aM hy20;have KA20:=aM hA20;clear hy20 hA20;have KL20:=aM (show (a2:Int).toNat ≤ l0.length from by omega);have KM20:=aM (show (a1:Int).toNat ≤ (a2:Int).toNat from by omega);replace q20:=eq_true q20;go_enter Tryz.func31,Tryz.ntmps31;go_upto_if 45 with (first | ((with_reducible refine gC 48 rfl ?_);refine ah (some 40) Tryz.func48 #[.slice A20 y487.length c20] ?_;(with_reducible refine (dV.calls k _ _ y487 t491 t492 t493 _ ?side1 ?side2 A15.out).mono ?_);(case side1=>repeat (first | exact (by repeat (first | (with_reducible exact HR490.out) | (with_reducible refine Kd.C_alloc ?_ _) | (with_reducible refine Kd.iw ?_ _) | (with_reducible refine Kd.C_drew ?_) | exact HR490.out)) | (with_reducible refine Kd.C_alloc ?_ _) | (with_reducible refine Kd.iw ?_ _) | (with_reducible refine Kd.C_drew ?_)));(case side2=>exact HC490.out);rintro e w21 ⟨v494,rfl,ho0,hb⟩;refine ⟨_,rfl,?_⟩;replace HO6:=aM (Kd.aY (bR HO6) hb);have HO495:=aM (Kd.aQ (Kd.wG (M:=fun k_=>(P6_ k_ ∨ w.heap.size ≤ k_)) ho0 (by first | exact HK.out.1 | exact (show Kept w _ (fun k_=>P6_ k_) from rU GW486.out).1) (fun k_ h_=>.inr h_)) (aJ (bG GE486)));replace BK486:=aM (bQ BK486 hb);replace HR490:=aM (Kd.fF (by repeat (first | (with_reducible exact HR490.out) | (with_reducible refine Kd.C_alloc ?_ _) | (with_reducible refine Kd.iw ?_ _) | (with_reducible refine Kd.C_drew ?_) | exact HR490.out)) hb);replace HK:=aM (Kept.below (S:=(fun k_=>P6_ k_)) (rU GW486.out) hb);replace HB:=aM (au (bG GE486) hb);(try clear ho0)) | ((with_reducible refine bF (N:=15) rfl ?_);(try (refine kQ (by rfl) ?_;dsimp only));refine dW ?hg (N:=15) ?hd (cs:=#[.int .i64 0,.int .i64 0,.int .i64 0,.int .i64 0,.int .i64 0,.int .i64 0,.int .i64 0]) (t:=30) ?hr ?_;(case hd=>rfl);(case hg=>rfl);(case hr=>exact aW);intro gb496 hg w22 hbox hb;replace HO6:=aM (Kd.aY (Kd.sW (bR HO6) gb496 (Nat.le_of_eq hg.symm)) hb);replace HO495:=aM (Kd.aY (bR HO495) hb);have BK496:=aM hbox;have GW496:=aM ((by rw [hg];exact (by first | exact HK.out.1 | exact (show Kept w _ (fun k_=>P6_ k_) from rU GW486.out).1):w.heap.size ≤ gb496));replace HK:=aM (Kept.below (S:=(fun k_=>P6_ k_)) (rU GW486.out) hb);have GE496:=aM ((by rw [hg];exact (aJ (bG GE486)):w0.heap.size ≤ gb496));replace HB:=aM (au (bG GE486) hb);have NB486_496:=aM ((by rw [hg];exact Nat.ne_of_lt (fH (g:=gb486) (o:=.cells #[.slice A0 l0.length c0,.slice Ao9 l6.length co9] 63 (0,0)) (bL BK486)):gb486 ≠ gb496));have NB496_486:=aM ((by rw [hg];exact Nat.ne_of_gt (fH (g:=gb486) (o:=.cells #[.slice A0 l0.length c0,.slice Ao9 l6.length co9] 63 (0,0)) (bL BK486)):gb496 ≠ gb486));replace BK486:=aM (bQ BK486 hb);clear hb hbox hg;have hnb23:=NB496_486.out;have hnc23:=NB486_496.out;obtain ⟨hcz24_0,hcz24_1,hcz24_2,hcz24_3,hcz24_4,hcz24_5,hcz24_6,hfz24_0,hfz24_1,hfz24_2,hfz24_3,hfz24_4,hfz24_5,hfz24_6⟩:=dY BK496.out) | ((with_reducible refine jF (t:=30) (p:=15) rfl ?_);refine jI (t:=30) (p:=15) (v:=?vo_w25) (w1:=(((((((w22.setCell ⟨gb496,0,none⟩ (.int .i64 3)).setCell ⟨gb496,1,none⟩ (.int .i64 0)).setCell ⟨gb496,2,none⟩ (.int .i64 0)).setCell ⟨gb496,3,none⟩ (.int .i64 0)).setCell ⟨gb496,4,none⟩ (.int .i64 0)).setCell ⟨gb496,5,none⟩ (.int .i64 0)).setCell ⟨gb496,6,none⟩ (.int .i64 0))) ?hg ?ho ?hn ?hr ?_;(case ho=>rfl);(case hg=>rfl);(case hn=>rfl);(case hr=>exact aW);intro w25 hw;have n0_:ae (Kd.R k30 30 w25 w0.heap.size (fun k_=>(P6_ k_ ∨ w.heap.size ≤ k_) ∧ k_ ≠ gb496) (.slice Ao9 l6.length co9) l6):=⟨(by rw [hw];exact (by (with_reducible repeat (first | apply Kd.R_alloc | apply Kd.dE | apply Kd.dm));exact Kd.aU (Kd.aK (p:=⟨gb496,6,none⟩) (Kd.aK (p:=⟨gb496,5,none⟩) (Kd.aK (p:=⟨gb496,4,none⟩) (Kd.aK (p:=⟨gb496,3,none⟩) (Kd.aK (p:=⟨gb496,2,none⟩) (Kd.aK (p:=⟨gb496,1,none⟩) (Kd.aK (p:=⟨gb496,0,none⟩) (Kd.aU HO6.out (fun k_ hk=>(⟨hk,hk.2⟩ : _ ∧ k_ ≠ gb496))) (fun _ hk=>hk.2) (.int .i64 3)) (fun _ hk=>hk.2) (.int .i64 0)) (fun _ hk=>hk.2) (.int .i64 0)) (fun _ hk=>hk.2) (.int .i64 0)) (fun _ hk=>hk.2) (.int .i64 0)) (fun _ hk=>hk.2) (.int .i64 0)) (fun _ hk=>hk.2) (.int .i64 0)) (fun _ hk=>⟨hk.1.1,hk.1.2⟩)))⟩;have n1_:ae (Kd.R bJ 111 w25 w0.heap.size (fun k_=>(P6_ k_ ∨ w.heap.size ≤ k_)) v494 t491):=⟨(by rw [hw];exact (by (with_reducible repeat (first | apply Kd.R_alloc | apply Kd.dE | apply Kd.dm));exact Kd.aU (Kd.aK (p:=⟨gb496,6,none⟩) (Kd.aK (p:=⟨gb496,5,none⟩) (Kd.aK (p:=⟨gb496,4,none⟩) (Kd.aK (p:=⟨gb496,3,none⟩) (Kd.aK (p:=⟨gb496,2,none⟩) (Kd.aK (p:=⟨gb496,1,none⟩) (Kd.aK (p:=⟨gb496,0,none⟩) (Kd.gz HO495.out BK496.out (by decide)) (fun _ hk=>hk.2) (.int .i64 3)) (fun _ hk=>hk.2) (.int .i64 0)) (fun _ hk=>hk.2) (.int .i64 0)) (fun _ hk=>hk.2) (.int .i64 0)) (fun _ hk=>hk.2) (.int .i64 0)) (fun _ hk=>hk.2) (.int .i64 0)) (fun _ hk=>hk.2) (.int .i64 0)) (fun _ hk=>hk.1.1)))⟩;have n2_:ae (w25.heap[gb486]? = some (.cells #[.slice A0 l0.length c0,.slice Ao9 l6.length co9] 63 (0,0))):=⟨(sK NB486_496.out BK486.out)⟩;have n3_:ae (w25.heap[gb496]? = some (.cells #[.int .i64 3,.int .i64 0,.int .i64 0,.int .i64 0,.int .i64 0,.int .i64 0,.int .i64 0] 30 (0,0))):=⟨(by rw [hw];exact (sF BK496.out))⟩;have n4_:ae (Kept w w25 (fun k_=>P6_ k_)):=⟨(rC GW486.out GW496.out)⟩;have n5_:ae (Below w0.heap.size w0 w25):=⟨rF⟩;clear hw;clear HO6;clear HO495;clear BK486;clear BK496;clear HK;clear HB;have HO6:=n0_;have HO495:=n1_;have BK486:=n2_;have BK496:=n3_;have HK:=n4_;have HB:=n5_;clear n0_ n1_ n2_ n3_ n4_ n5_));(try simp only [Act.put,List.setIfInBounds_toArray,List.set_cons_zero,List.set_cons_succ]);go_cut [16] (fun v16 wc=>∃ (kq:Nat) (x16_15:ByteArray) (x497000_15:Int) (x497001_15:Int) (x497002_15:Int) (x497003_15:Int) (x497004_15:Int) (x497005_15:Int) (x497006_15:Int),v16 = .string x16_15 ∧ ae (bC.j0 kq a1 a2 a3 a4 a5 t491 t492 t493 x16_15 l0 l6 x497000_15 x497001_15 x497002_15 x497003_15 x497004_15 x497005_15 x497006_15 = some r) ∧ ae (kq ≤ k) ∧ ae (Kd.R bJ 111 wc w0.heap.size (fun k_=>(P6_ k_ ∨ w.heap.size ≤ k_)) v494 t491) ∧ ae (Kd.R k30 30 wc w0.heap.size (fun k_=>(P6_ k_ ∨ w.heap.size ≤ k_) ∧ k_ ≠ gb496) (.slice Ao9 l6.length co9) l6) ∧ ae (wc.heap[gb486]? = some (.cells #[(.slice A0 l0.length c0),(.slice Ao9 l6.length co9)] 63 (0,0))) ∧ ae (wc.heap[gb496]? = some (.cells #[.int .i64 x497000_15,.int .i64 x497001_15,.int .i64 x497002_15,.int .i64 x497003_15,.int .i64 x497004_15,.int .i64 x497005_15,.int .i64 x497006_15] 30 (0,0))) ∧ ae (Kept w wc (fun k_=>P6_ k_)) ∧ ae (Below w0.heap.size w0 wc))
    case first =>
     have H:=HC16.out;clear HC16;by_cases c26:t493 = true
     ·subst c26;replace H:((gu.f k t491 (⟨#[67,111,110,116,101,110,116,45,84,121,112,101]⟩ : ByteArray)).bind fun bt497=>(if bt497.2 = true then ((eQ.f k bt497.1).bind fun bt499=>(bC.j0 k a1 a2 a3 a4 a5 t491 t492 true bt497.1 l0 l6 bt499.1 bt499.2.1 bt499.2.2.1 bt499.2.2.2.1 bt499.2.2.2.2.1 bt499.2.2.2.2.2.1 bt499.2.2.2.2.2.2)) else (bC.j0 k a1 a2 a3 a4 a5 t491 t492 true (⟨#[]⟩ : ByteArray) l0 l6 1 1 0 0 0 0 0))) = some r:=dS;replace H:=oB H;obtain ⟨⟨t497,t498⟩,A27,H⟩:=H;try dsimp only at H
      have HQ_:=aM H;clear H;have hnb30:=NB496_486.out;have hnc30:=NB486_496.out;obtain ⟨hcz31_0,hcz31_1,hcz31_2,hcz31_3,hcz31_4,hcz31_5,hcz31_6,hfz31_0,hfz31_1,hfz31_2,hfz31_3,hfz31_4,hfz31_5,hfz31_6⟩:=dY BK496.out;have H:=HQ_.out;clear HQ_;by_cases c28:t498 = true
      ·subst c28;replace H:((eQ.f k t497).bind fun bt499=>(bC.j0 k a1 a2 a3 a4 a5 t491 t492 true t497 l0 l6 bt499.1 bt499.2.1 bt499.2.2.1 bt499.2.2.2.1 bt499.2.2.2.2.1 bt499.2.2.2.2.2.1 bt499.2.2.2.2.2.2)) = some r:=dS;replace H:=oB H;obtain ⟨⟨t499,t500,t501,t502,t503,t504,t505⟩,A29,H⟩:=H;try dsimp only at H
       have H':=aM H;clear H;go_wp2_with (first | ((with_reducible refine jF (t:=30) (p:=15) rfl ?_);refine jI (t:=30) (p:=15) (v:=?vo_w32) (w1:=(((((((w25.setCell ⟨gb496,0,none⟩ (.int .i64 1)).setCell ⟨gb496,1,none⟩ (.int .i64 1)).setCell ⟨gb496,2,none⟩ (.int .i64 0)).setCell ⟨gb496,3,none⟩ (.int .i64 0)).setCell ⟨gb496,4,none⟩ (.int .i64 0)).setCell ⟨gb496,5,none⟩ (.int .i64 0)).setCell ⟨gb496,6,none⟩ (.int .i64 0))) ?hg ?ho ?hn ?hr ?_;(case ho=>rfl);(case hg=>rfl);(case hn=>rfl);(case hr=>exact aW);intro w32 hw;have n0_:ae (Kd.R k30 30 w32 w0.heap.size (fun k_=>(P6_ k_ ∨ w.heap.size ≤ k_) ∧ k_ ≠ gb496) (.slice Ao9 l6.length co9) l6):=⟨(by rw [hw];exact (by (with_reducible repeat (first | apply Kd.R_alloc | apply Kd.dE | apply Kd.dm));exact Kd.aU (Kd.aK (p:=⟨gb496,6,none⟩) (Kd.aK (p:=⟨gb496,5,none⟩) (Kd.aK (p:=⟨gb496,4,none⟩) (Kd.aK (p:=⟨gb496,3,none⟩) (Kd.aK (p:=⟨gb496,2,none⟩) (Kd.aK (p:=⟨gb496,1,none⟩) (Kd.aK (p:=⟨gb496,0,none⟩) (Kd.aU HO6.out (fun k_ hk=>(⟨hk,hk.2⟩ : _ ∧ k_ ≠ gb496))) (fun _ hk=>hk.2) (.int .i64 1)) (fun _ hk=>hk.2) (.int .i64 1)) (fun _ hk=>hk.2) (.int .i64 0)) (fun _ hk=>hk.2) (.int .i64 0)) (fun _ hk=>hk.2) (.int .i64 0)) (fun _ hk=>hk.2) (.int .i64 0)) (fun _ hk=>hk.2) (.int .i64 0)) (fun _ hk=>⟨hk.1.1,hk.1.2⟩)))⟩;have n1_:ae (Kd.R bJ 111 w32 w0.heap.size (fun k_=>(P6_ k_ ∨ w.heap.size ≤ k_)) v494 t491):=⟨(by rw [hw];exact (by (with_reducible repeat (first | apply Kd.R_alloc | apply Kd.dE | apply Kd.dm));exact Kd.aU (Kd.aK (p:=⟨gb496,6,none⟩) (Kd.aK (p:=⟨gb496,5,none⟩) (Kd.aK (p:=⟨gb496,4,none⟩) (Kd.aK (p:=⟨gb496,3,none⟩) (Kd.aK (p:=⟨gb496,2,none⟩) (Kd.aK (p:=⟨gb496,1,none⟩) (Kd.aK (p:=⟨gb496,0,none⟩) (Kd.gz HO495.out BK496.out (by decide)) (fun _ hk=>hk.2) (.int .i64 1)) (fun _ hk=>hk.2) (.int .i64 1)) (fun _ hk=>hk.2) (.int .i64 0)) (fun _ hk=>hk.2) (.int .i64 0)) (fun _ hk=>hk.2) (.int .i64 0)) (fun _ hk=>hk.2) (.int .i64 0)) (fun _ hk=>hk.2) (.int .i64 0)) (fun _ hk=>hk.1)))⟩;have n2_:ae (w32.heap[gb486]? = some (.cells #[.slice A0 l0.length c0,.slice Ao9 l6.length co9] 63 (0,0))):=⟨(sK NB486_496.out BK486.out)⟩;have n3_:ae (w32.heap[gb496]? = some (.cells #[.int .i64 1,.int .i64 1,.int .i64 0,.int .i64 0,.int .i64 0,.int .i64 0,.int .i64 0] 30 (0,0))):=⟨(by rw [hw];exact (by (with_reducible repeat (first | refine ak ?_ _ | refine aj ?_ | refine ai ?_ _));refine aI (cs:=#[.int .i64 1,.int .i64 1,.int .i64 0,.int .i64 0,.int .i64 0,.int .i64 0,.int .i64 0]) ?_ 6 _ rfl;(with_reducible repeat (first | refine ak ?_ _ | refine aj ?_ | refine ai ?_ _));refine aI (cs:=#[.int .i64 1,.int .i64 1,.int .i64 0,.int .i64 0,.int .i64 0,.int .i64 0,.int .i64 0]) ?_ 5 _ rfl;(with_reducible repeat (first | refine ak ?_ _ | refine aj ?_ | refine ai ?_ _));refine aI (cs:=#[.int .i64 1,.int .i64 1,.int .i64 0,.int .i64 0,.int .i64 0,.int .i64 0,.int .i64 0]) ?_ 4 _ rfl;(with_reducible repeat (first | refine ak ?_ _ | refine aj ?_ | refine ai ?_ _));refine aI (cs:=#[.int .i64 1,.int .i64 1,.int .i64 0,.int .i64 0,.int .i64 0,.int .i64 0,.int .i64 0]) ?_ 3 _ rfl;(with_reducible repeat (first | refine ak ?_ _ | refine aj ?_ | refine ai ?_ _));refine aI (cs:=#[.int .i64 1,.int .i64 1,.int .i64 0,.int .i64 0,.int .i64 0,.int .i64 0,.int .i64 0]) ?_ 2 _ rfl;(with_reducible repeat (first | refine ak ?_ _ | refine aj ?_ | refine ai ?_ _));refine aI (cs:=#[.int .i64 1,.int .i64 0,.int .i64 0,.int .i64 0,.int .i64 0,.int .i64 0,.int .i64 0]) ?_ 1 _ rfl;(with_reducible repeat (first | refine ak ?_ _ | refine aj ?_ | refine ai ?_ _));refine aI (cs:=#[.int .i64 3,.int .i64 0,.int .i64 0,.int .i64 0,.int .i64 0,.int .i64 0,.int .i64 0]) ?_ 0 _ rfl;(with_reducible repeat (first | refine ak ?_ _ | refine aj ?_ | refine ai ?_ _));exact BK496.out))⟩;have n4_:ae (Kept w w32 (fun k_=>P6_ k_)):=⟨(rC GW486.out GW496.out)⟩;have n5_:ae (Below w0.heap.size w0 w32):=⟨rF⟩;clear hw;clear HO6;clear HO495;clear BK486;clear BK496;clear HK;clear HB;have HO6:=n0_;have HO495:=n1_;have BK486:=n2_;have BK496:=n3_;have HK:=n4_;have HB:=n5_;clear n0_ n1_ n2_ n3_ n4_ n5_;obtain ⟨Ao33,co33,eo33⟩:=Kd.bn HO495.out;subst eo33) | ((with_reducible refine gC 49 rfl ?_);refine ah (some 49) Tryz.func49 #[.slice Ao33 t491.length co33,.string (⟨#[67,111,110,116,101,110,116,45,84,121,112,101]⟩ : ByteArray)] ?_;(with_reducible refine (gu.calls k _ _ t491 (⟨#[67,111,110,116,101,110,116,45,84,121,112,101]⟩ : ByteArray) t497 true _ ?side1 ?side2 A27.out).mono ?_);(case side1=>exact dO HO495.out);(case side2=>exact (Kd.aV HO495.out).2.1);rintro e w34 ⟨rfl,hb⟩;refine ⟨_,rfl,?_⟩;replace HO6:=aM (Kd.aY (bR HO6) hb);replace HO495:=aM (Kd.aY (bR HO495) hb);replace BK486:=aM (bQ BK486 hb);replace BK496:=aM (bQ BK496 hb);replace HK:=aM (Kept.below (S:=(fun k_=>P6_ k_)) (iC GW486.out GW496.out) hb);replace HB:=aM (au (dB GE486 GE496) hb);(try clear hi)) | ((with_reducible refine gC 11 rfl ?_);refine ah (some 54) Tryz.func11 #[.string t497] ?_;(with_reducible refine (eQ.calls k t497 t499 t500 t501 t502 t503 t504 t505 _ A29.out).mono ?_);rintro e w35 ⟨rfl,hb⟩;refine ⟨_,rfl,?_⟩;replace HO6:=aM (Kd.aY (bR HO6) hb);replace HO495:=aM (Kd.aY (bR HO495) hb);replace BK486:=aM (bQ BK486 hb);replace BK496:=aM (bQ BK496 hb);replace HK:=aM (Kept.below (S:=(fun k_=>P6_ k_)) (iC GW486.out GW496.out) hb);replace HB:=aM (au (dB GE486 GE496) hb);obtain ⟨hcz36_0,hcz36_1,hcz36_2,hcz36_3,hcz36_4,hcz36_5,hcz36_6,hfz36_0,hfz36_1,hfz36_2,hfz36_3,hfz36_4,hfz36_5,hfz36_6⟩:=dY BK496.out) | ((with_reducible refine jF (t:=30) (p:=15) rfl ?_);refine jI (t:=30) (p:=15) (v:=?vo_w37) (w1:=(((((((w35.setCell ⟨gb496,0,none⟩ (.int .i64 t499)).setCell ⟨gb496,1,none⟩ (.int .i64 t500)).setCell ⟨gb496,2,none⟩ (.int .i64 t501)).setCell ⟨gb496,3,none⟩ (.int .i64 t502)).setCell ⟨gb496,4,none⟩ (.int .i64 t503)).setCell ⟨gb496,5,none⟩ (.int .i64 t504)).setCell ⟨gb496,6,none⟩ (.int .i64 t505))) ?hg ?ho ?hn ?hr ?_;(case ho=>rfl);(case hg=>rfl);(case hn=>rfl);(case hr=>exact aW);intro w37 hw;have n0_:ae (Kd.R k30 30 w37 w0.heap.size (fun k_=>(P6_ k_ ∨ w.heap.size ≤ k_) ∧ k_ ≠ gb496) (.slice Ao9 l6.length co9) l6):=⟨(by rw [hw];exact (by (with_reducible repeat (first | apply Kd.R_alloc | apply Kd.dE | apply Kd.dm));exact Kd.aU (Kd.aK (p:=⟨gb496,6,none⟩) (Kd.aK (p:=⟨gb496,5,none⟩) (Kd.aK (p:=⟨gb496,4,none⟩) (Kd.aK (p:=⟨gb496,3,none⟩) (Kd.aK (p:=⟨gb496,2,none⟩) (Kd.aK (p:=⟨gb496,1,none⟩) (Kd.aK (p:=⟨gb496,0,none⟩) (Kd.aU HO6.out (fun k_ hk=>(⟨hk,hk.2⟩ : _ ∧ k_ ≠ gb496))) (fun _ hk=>hk.2) (.int .i64 t499)) (fun _ hk=>hk.2) (.int .i64 t500)) (fun _ hk=>hk.2) (.int .i64 t501)) (fun _ hk=>hk.2) (.int .i64 t502)) (fun _ hk=>hk.2) (.int .i64 t503)) (fun _ hk=>hk.2) (.int .i64 t504)) (fun _ hk=>hk.2) (.int .i64 t505)) (fun _ hk=>⟨hk.1.1,hk.1.2⟩)))⟩;have n1_:ae (Kd.R bJ 111 w37 w0.heap.size (fun k_=>(P6_ k_ ∨ w.heap.size ≤ k_)) (.slice Ao33 t491.length co33) t491):=⟨(by rw [hw];exact (by (with_reducible repeat (first | apply Kd.R_alloc | apply Kd.dE | apply Kd.dm));exact Kd.aU (Kd.aK (p:=⟨gb496,6,none⟩) (Kd.aK (p:=⟨gb496,5,none⟩) (Kd.aK (p:=⟨gb496,4,none⟩) (Kd.aK (p:=⟨gb496,3,none⟩) (Kd.aK (p:=⟨gb496,2,none⟩) (Kd.aK (p:=⟨gb496,1,none⟩) (Kd.aK (p:=⟨gb496,0,none⟩) (Kd.gz HO495.out BK496.out (by decide)) (fun _ hk=>hk.2) (.int .i64 t499)) (fun _ hk=>hk.2) (.int .i64 t500)) (fun _ hk=>hk.2) (.int .i64 t501)) (fun _ hk=>hk.2) (.int .i64 t502)) (fun _ hk=>hk.2) (.int .i64 t503)) (fun _ hk=>hk.2) (.int .i64 t504)) (fun _ hk=>hk.2) (.int .i64 t505)) (fun _ hk=>hk.1)))⟩;have n2_:ae (w37.heap[gb486]? = some (.cells #[.slice A0 l0.length c0,.slice Ao9 l6.length co9] 63 (0,0))):=⟨(sK NB486_496.out BK486.out)⟩;have n3_:ae (w37.heap[gb496]? = some (.cells #[.int .i64 t499,.int .i64 t500,.int .i64 t501,.int .i64 t502,.int .i64 t503,.int .i64 t504,.int .i64 t505] 30 (0,0))):=⟨(by rw [hw];exact (by (with_reducible repeat (first | refine ak ?_ _ | refine aj ?_ | refine ai ?_ _));refine aI (cs:=#[.int .i64 t499,.int .i64 t500,.int .i64 t501,.int .i64 t502,.int .i64 t503,.int .i64 t504,.int .i64 0]) ?_ 6 _ rfl;(with_reducible repeat (first | refine ak ?_ _ | refine aj ?_ | refine ai ?_ _));refine aI (cs:=#[.int .i64 t499,.int .i64 t500,.int .i64 t501,.int .i64 t502,.int .i64 t503,.int .i64 0,.int .i64 0]) ?_ 5 _ rfl;(with_reducible repeat (first | refine ak ?_ _ | refine aj ?_ | refine ai ?_ _));refine aI (cs:=#[.int .i64 t499,.int .i64 t500,.int .i64 t501,.int .i64 t502,.int .i64 0,.int .i64 0,.int .i64 0]) ?_ 4 _ rfl;(with_reducible repeat (first | refine ak ?_ _ | refine aj ?_ | refine ai ?_ _));refine aI (cs:=#[.int .i64 t499,.int .i64 t500,.int .i64 t501,.int .i64 0,.int .i64 0,.int .i64 0,.int .i64 0]) ?_ 3 _ rfl;(with_reducible repeat (first | refine ak ?_ _ | refine aj ?_ | refine ai ?_ _));refine aI (cs:=#[.int .i64 t499,.int .i64 t500,.int .i64 0,.int .i64 0,.int .i64 0,.int .i64 0,.int .i64 0]) ?_ 2 _ rfl;(with_reducible repeat (first | refine ak ?_ _ | refine aj ?_ | refine ai ?_ _));refine aI (cs:=#[.int .i64 t499,.int .i64 1,.int .i64 0,.int .i64 0,.int .i64 0,.int .i64 0,.int .i64 0]) ?_ 1 _ rfl;(with_reducible repeat (first | refine ak ?_ _ | refine aj ?_ | refine ai ?_ _));refine aI (cs:=#[.int .i64 1,.int .i64 1,.int .i64 0,.int .i64 0,.int .i64 0,.int .i64 0,.int .i64 0]) ?_ 0 _ rfl;(with_reducible repeat (first | refine ak ?_ _ | refine aj ?_ | refine ai ?_ _));exact BK496.out))⟩;have n4_:ae (Kept w w37 (fun k_=>P6_ k_)):=⟨(rC GW486.out GW496.out)⟩;have n5_:ae (Below w0.heap.size w0 w37):=⟨rF⟩;clear hw;clear HO6;clear HO495;clear BK486;clear BK496;clear HK;clear HB;have HO6:=n0_;have HO495:=n1_;have BK486:=n2_;have BK496:=n3_;have HK:=n4_;have HB:=n5_;clear n0_ n1_ n2_ n3_ n4_ n5_));go_meet
       case rel=>exact ⟨_,(t497),(t499),(t500),(t501),(t502),(t503),(t504),(t505),bS,H',⟨jY⟩,⟨bR HO495⟩,⟨bR HO6⟩,⟨bL BK486⟩,⟨bL BK496⟩,⟨iC GW486.out GW496.out⟩,⟨dB GE486 GE496⟩⟩
      replace c28:=Bool.eq_false_iff.mpr c28;subst c28;replace H:(bC.j0 k a1 a2 a3 a4 a5 t491 t492 true (⟨#[]⟩ : ByteArray) l0 l6 1 1 0 0 0 0 0) = some r:=dP;have H':=aM H;clear H;go_wp2_with (first | ((with_reducible refine jF (t:=30) (p:=15) rfl ?_);refine jI (t:=30) (p:=15) (v:=?vo_w40) (w1:=(((((((w25.setCell ⟨gb496,0,none⟩ (.int .i64 1)).setCell ⟨gb496,1,none⟩ (.int .i64 1)).setCell ⟨gb496,2,none⟩ (.int .i64 0)).setCell ⟨gb496,3,none⟩ (.int .i64 0)).setCell ⟨gb496,4,none⟩ (.int .i64 0)).setCell ⟨gb496,5,none⟩ (.int .i64 0)).setCell ⟨gb496,6,none⟩ (.int .i64 0))) ?hg ?ho ?hn ?hr ?_;(case ho=>rfl);(case hg=>rfl);(case hn=>rfl);(case hr=>exact aW);intro w40 hw;have n0_:ae (Kd.R k30 30 w40 w0.heap.size (fun k_=>(P6_ k_ ∨ w.heap.size ≤ k_) ∧ k_ ≠ gb496) (.slice Ao9 l6.length co9) l6):=⟨(by rw [hw];exact (by (with_reducible repeat (first | apply Kd.R_alloc | apply Kd.dE | apply Kd.dm));exact Kd.aU (Kd.aK (p:=⟨gb496,6,none⟩) (Kd.aK (p:=⟨gb496,5,none⟩) (Kd.aK (p:=⟨gb496,4,none⟩) (Kd.aK (p:=⟨gb496,3,none⟩) (Kd.aK (p:=⟨gb496,2,none⟩) (Kd.aK (p:=⟨gb496,1,none⟩) (Kd.aK (p:=⟨gb496,0,none⟩) (Kd.aU HO6.out (fun k_ hk=>(⟨hk,hk.2⟩ : _ ∧ k_ ≠ gb496))) (fun _ hk=>hk.2) (.int .i64 1)) (fun _ hk=>hk.2) (.int .i64 1)) (fun _ hk=>hk.2) (.int .i64 0)) (fun _ hk=>hk.2) (.int .i64 0)) (fun _ hk=>hk.2) (.int .i64 0)) (fun _ hk=>hk.2) (.int .i64 0)) (fun _ hk=>hk.2) (.int .i64 0)) (fun _ hk=>⟨hk.1.1,hk.1.2⟩)))⟩;have n1_:ae (Kd.R bJ 111 w40 w0.heap.size (fun k_=>(P6_ k_ ∨ w.heap.size ≤ k_)) v494 t491):=⟨(by rw [hw];exact (by (with_reducible repeat (first | apply Kd.R_alloc | apply Kd.dE | apply Kd.dm));exact Kd.aU (Kd.aK (p:=⟨gb496,6,none⟩) (Kd.aK (p:=⟨gb496,5,none⟩) (Kd.aK (p:=⟨gb496,4,none⟩) (Kd.aK (p:=⟨gb496,3,none⟩) (Kd.aK (p:=⟨gb496,2,none⟩) (Kd.aK (p:=⟨gb496,1,none⟩) (Kd.aK (p:=⟨gb496,0,none⟩) (Kd.gz HO495.out BK496.out (by decide)) (fun _ hk=>hk.2) (.int .i64 1)) (fun _ hk=>hk.2) (.int .i64 1)) (fun _ hk=>hk.2) (.int .i64 0)) (fun _ hk=>hk.2) (.int .i64 0)) (fun _ hk=>hk.2) (.int .i64 0)) (fun _ hk=>hk.2) (.int .i64 0)) (fun _ hk=>hk.2) (.int .i64 0)) (fun _ hk=>hk.1)))⟩;have n2_:ae (w40.heap[gb486]? = some (.cells #[.slice A0 l0.length c0,.slice Ao9 l6.length co9] 63 (0,0))):=⟨(sK NB486_496.out BK486.out)⟩;have n3_:ae (w40.heap[gb496]? = some (.cells #[.int .i64 1,.int .i64 1,.int .i64 0,.int .i64 0,.int .i64 0,.int .i64 0,.int .i64 0] 30 (0,0))):=⟨(by rw [hw];exact (by (with_reducible repeat (first | refine ak ?_ _ | refine aj ?_ | refine ai ?_ _));refine aI (cs:=#[.int .i64 1,.int .i64 1,.int .i64 0,.int .i64 0,.int .i64 0,.int .i64 0,.int .i64 0]) ?_ 6 _ rfl;(with_reducible repeat (first | refine ak ?_ _ | refine aj ?_ | refine ai ?_ _));refine aI (cs:=#[.int .i64 1,.int .i64 1,.int .i64 0,.int .i64 0,.int .i64 0,.int .i64 0,.int .i64 0]) ?_ 5 _ rfl;(with_reducible repeat (first | refine ak ?_ _ | refine aj ?_ | refine ai ?_ _));refine aI (cs:=#[.int .i64 1,.int .i64 1,.int .i64 0,.int .i64 0,.int .i64 0,.int .i64 0,.int .i64 0]) ?_ 4 _ rfl;(with_reducible repeat (first | refine ak ?_ _ | refine aj ?_ | refine ai ?_ _));refine aI (cs:=#[.int .i64 1,.int .i64 1,.int .i64 0,.int .i64 0,.int .i64 0,.int .i64 0,.int .i64 0]) ?_ 3 _ rfl;(with_reducible repeat (first | refine ak ?_ _ | refine aj ?_ | refine ai ?_ _));refine aI (cs:=#[.int .i64 1,.int .i64 1,.int .i64 0,.int .i64 0,.int .i64 0,.int .i64 0,.int .i64 0]) ?_ 2 _ rfl;(with_reducible repeat (first | refine ak ?_ _ | refine aj ?_ | refine ai ?_ _));refine aI (cs:=#[.int .i64 1,.int .i64 0,.int .i64 0,.int .i64 0,.int .i64 0,.int .i64 0,.int .i64 0]) ?_ 1 _ rfl;(with_reducible repeat (first | refine ak ?_ _ | refine aj ?_ | refine ai ?_ _));refine aI (cs:=#[.int .i64 3,.int .i64 0,.int .i64 0,.int .i64 0,.int .i64 0,.int .i64 0,.int .i64 0]) ?_ 0 _ rfl;(with_reducible repeat (first | refine ak ?_ _ | refine aj ?_ | refine ai ?_ _));exact BK496.out))⟩;have n4_:ae (Kept w w40 (fun k_=>P6_ k_)):=⟨(rC GW486.out GW496.out)⟩;have n5_:ae (Below w0.heap.size w0 w40):=⟨rF⟩;clear hw;clear HO6;clear HO495;clear BK486;clear BK496;clear HK;clear HB;have HO6:=n0_;have HO495:=n1_;have BK486:=n2_;have BK496:=n3_;have HK:=n4_;have HB:=n5_;clear n0_ n1_ n2_ n3_ n4_ n5_;obtain ⟨Ao41,co41,eo41⟩:=Kd.bn HO495.out;subst eo41) | ((with_reducible refine gC 49 rfl ?_);refine ah (some 49) Tryz.func49 #[.slice Ao41 t491.length co41,.string (⟨#[67,111,110,116,101,110,116,45,84,121,112,101]⟩ : ByteArray)] ?_;(with_reducible refine (gu.calls k _ _ t491 (⟨#[67,111,110,116,101,110,116,45,84,121,112,101]⟩ : ByteArray) t497 false _ ?side1 ?side2 A27.out).mono ?_);(case side1=>exact dO HO495.out);(case side2=>exact (Kd.aV HO495.out).2.1);rintro e w42 ⟨rfl,hb⟩;refine ⟨_,rfl,?_⟩;replace HO6:=aM (Kd.aY (bR HO6) hb);replace HO495:=aM (Kd.aY (bR HO495) hb);replace BK486:=aM (bQ BK486 hb);replace BK496:=aM (bQ BK496 hb);replace HK:=aM (Kept.below (S:=(fun k_=>P6_ k_)) (iC GW486.out GW496.out) hb);replace HB:=aM (au (dB GE486 GE496) hb);(try clear hi)));go_meet
      case rel=>exact ⟨_,((⟨#[]⟩ : ByteArray)),(1),(1),(0),(0),(0),(0),(0),bS,H',⟨jY⟩,⟨bR HO495⟩,⟨bR HO6⟩,⟨bL BK486⟩,⟨bL BK496⟩,⟨iC GW486.out GW496.out⟩,⟨dB GE486 GE496⟩⟩
     replace c26:=Bool.eq_false_iff.mpr c26;subst c26;replace H:(bC.j0 k a1 a2 a3 a4 a5 t491 t492 false (⟨#[]⟩ : ByteArray) l0 l6 3 0 0 0 0 0 0) = some r:=dP;have H':=aM H;clear H;go_wp2;go_meet
     case rel=>exact ⟨_,((⟨#[]⟩ : ByteArray)),(3),(0),(0),(0),(0),(0),(0),bS,H',⟨jY⟩,⟨bR HO495⟩,⟨bR HO6⟩,⟨bL BK486⟩,⟨bL BK496⟩,⟨iC GW486.out GW496.out⟩,⟨dB GE486 GE496⟩⟩
    case rest =>
     clear HC16;try clear c1
     try clear c8
     try clear c8b0
     try clear c8b1
     try clear c12
     try clear c12b0
     try clear c12b1
     try clear c13
     try clear c13b0
     try clear c13b1
     try clear c14
     try clear c14b0
     try clear c14b1
     try clear c20
     try clear q20
     try clear hcz11_0
     try clear hcz11_1
     try clear hcz11_0
     try clear hcz11_1
     try clear hcz24_0
     try clear hcz24_1
     try clear hcz24_2
     try clear hcz24_3
     try clear hcz24_4
     try clear hcz24_5
     try clear hcz24_6
     try clear hfz11_0
     try clear hfz11_1
     try clear hfz11_0
     try clear hfz11_1
     try clear hfz24_0
     try clear hfz24_1
     try clear hfz24_2
     try clear hfz24_3
     try clear hfz24_4
     try clear hfz24_5
     try clear hfz24_6
     try clear q020
     try clear q20
     obtain ⟨kq,x16_15,x497000_15,x497001_15,x497002_15,x497003_15,x497004_15,x497005_15,x497006_15,rfl,HA,HJ15,HO_12,HO_487001,BK486,BK496,HK,HB⟩:=hcut
     cases kq with
     | zero=>exact absurd HA.out (by simp [bC.j0])
     | succ kj15 =>
      have H:=HA.out;clear HA;simp only [bC.j0] at H;have HC43:=aM H;clear H;have hnb44:=NB496_486.out;have hnc44:=NB486_496.out;obtain ⟨hcz45_0,hcz45_1,hcz45_2,hcz45_3,hcz45_4,hcz45_5,hcz45_6,hfz45_0,hfz45_1,hfz45_2,hfz45_3,hfz45_4,hfz45_5,hfz45_6⟩:=dY BK496.out;go_upto_if 65 with (first | ((with_reducible refine jF (t:=2) (p:=64) rfl ?_);refine jI (t:=2) (p:=64) (v:=?vo_w46) (w1:=(((((wc.setCell ⟨gb496,2,none⟩ (.int .i64 1)).setCell ⟨gb496,3,none⟩ (.int .i64 a1)).setCell ⟨gb496,4,none⟩ (.int .i64 a2)).setCell ⟨gb496,5,none⟩ (.int .i64 a3)).setCell ⟨gb496,6,none⟩ (.int .i64 a4))) ?hg ?ho ?hn ?hr ?_;(case ho=>rfl);(case hg=>rfl);(case hn=>rfl);(case hr=>exact aW);intro w46 hw;have n0_:ae (Kd.R bJ 111 w46 w0.heap.size (fun k_=>(P6_ k_ ∨ w.heap.size ≤ k_)) v494 t491):=⟨(by rw [hw];exact (by (with_reducible repeat (first | apply Kd.R_alloc | apply Kd.dE | apply Kd.dm));exact Kd.aU (Kd.aK (p:=⟨gb496,6,none⟩) (Kd.aK (p:=⟨gb496,5,none⟩) (Kd.aK (p:=⟨gb496,4,none⟩) (Kd.aK (p:=⟨gb496,3,none⟩) (Kd.aK (p:=⟨gb496,2,none⟩) (Kd.gz HO_12.out BK496.out (by decide)) (fun _ hk=>hk.2) (.int .i64 1)) (fun _ hk=>hk.2) (.int .i64 a1)) (fun _ hk=>hk.2) (.int .i64 a2)) (fun _ hk=>hk.2) (.int .i64 a3)) (fun _ hk=>hk.2) (.int .i64 a4)) (fun _ hk=>hk.1)))⟩;have n1_:ae (Kd.R k30 30 w46 w0.heap.size (fun k_=>(P6_ k_ ∨ w.heap.size ≤ k_) ∧ k_ ≠ gb496) (.slice Ao9 l6.length co9) l6):=⟨(by rw [hw];exact (by (with_reducible repeat (first | apply Kd.R_alloc | apply Kd.dE | apply Kd.dm));exact Kd.aU (Kd.aK (p:=⟨gb496,6,none⟩) (Kd.aK (p:=⟨gb496,5,none⟩) (Kd.aK (p:=⟨gb496,4,none⟩) (Kd.aK (p:=⟨gb496,3,none⟩) (Kd.aK (p:=⟨gb496,2,none⟩) (Kd.aU HO_487001.out (fun k_ hk=>(⟨hk,hk.2⟩ : _ ∧ k_ ≠ gb496))) (fun _ hk=>hk.2) (.int .i64 1)) (fun _ hk=>hk.2) (.int .i64 a1)) (fun _ hk=>hk.2) (.int .i64 a2)) (fun _ hk=>hk.2) (.int .i64 a3)) (fun _ hk=>hk.2) (.int .i64 a4)) (fun _ hk=>⟨hk.1.1,hk.1.2⟩)))⟩;have n2_:ae (w46.heap[gb486]? = some (.cells #[.slice A0 l0.length c0,.slice Ao9 l6.length co9] 63 (0,0))):=⟨(by rw [hw];exact (by (with_reducible repeat (first | refine ak ?_ _ | refine aj ?_ | refine ai ?_ _));refine fD ?_ NB486_496.out _;(with_reducible repeat (first | refine ak ?_ _ | refine aj ?_ | refine ai ?_ _));refine fD ?_ NB486_496.out _;(with_reducible repeat (first | refine ak ?_ _ | refine aj ?_ | refine ai ?_ _));refine fD ?_ NB486_496.out _;(with_reducible repeat (first | refine ak ?_ _ | refine aj ?_ | refine ai ?_ _));refine fD ?_ NB486_496.out _;(with_reducible repeat (first | refine ak ?_ _ | refine aj ?_ | refine ai ?_ _));refine fD ?_ NB486_496.out _;(with_reducible repeat (first | refine ak ?_ _ | refine aj ?_ | refine ai ?_ _));exact BK486.out))⟩;have n3_:ae (w46.heap[gb496]? = some (.cells #[.int .i64 x497000_15,.int .i64 x497001_15,.int .i64 1,.int .i64 a1,.int .i64 a2,.int .i64 a3,.int .i64 a4] 30 (0,0))):=⟨(by rw [hw];exact (by (with_reducible repeat (first | refine ak ?_ _ | refine aj ?_ | refine ai ?_ _));refine aI (cs:=#[.int .i64 x497000_15,.int .i64 x497001_15,.int .i64 1,.int .i64 a1,.int .i64 a2,.int .i64 a3,.int .i64 x497006_15]) ?_ 6 _ rfl;(with_reducible repeat (first | refine ak ?_ _ | refine aj ?_ | refine ai ?_ _));refine aI (cs:=#[.int .i64 x497000_15,.int .i64 x497001_15,.int .i64 1,.int .i64 a1,.int .i64 a2,.int .i64 x497005_15,.int .i64 x497006_15]) ?_ 5 _ rfl;(with_reducible repeat (first | refine ak ?_ _ | refine aj ?_ | refine ai ?_ _));refine aI (cs:=#[.int .i64 x497000_15,.int .i64 x497001_15,.int .i64 1,.int .i64 a1,.int .i64 x497004_15,.int .i64 x497005_15,.int .i64 x497006_15]) ?_ 4 _ rfl;(with_reducible repeat (first | refine ak ?_ _ | refine aj ?_ | refine ai ?_ _));refine aI (cs:=#[.int .i64 x497000_15,.int .i64 x497001_15,.int .i64 1,.int .i64 x497003_15,.int .i64 x497004_15,.int .i64 x497005_15,.int .i64 x497006_15]) ?_ 3 _ rfl;(with_reducible repeat (first | refine ak ?_ _ | refine aj ?_ | refine ai ?_ _));refine aI (cs:=#[.int .i64 x497000_15,.int .i64 x497001_15,.int .i64 x497002_15,.int .i64 x497003_15,.int .i64 x497004_15,.int .i64 x497005_15,.int .i64 x497006_15]) ?_ 2 _ rfl;(with_reducible repeat (first | refine ak ?_ _ | refine aj ?_ | refine ai ?_ _));exact BK496.out))⟩;have n4_:ae (Kept w w46 (fun k_=>P6_ k_)):=⟨(rC GW486.out GW496.out)⟩;have n5_:ae (Below w0.heap.size w0 w46):=⟨rF⟩;clear hw;clear HO_12;clear HO_487001;clear BK486;clear BK496;clear HK;clear HB;have HO_12:=n0_;have HO_487001:=n1_;have BK486:=n2_;have BK496:=n3_;have HK:=n4_;have HB:=n5_;clear n0_ n1_ n2_ n3_ n4_ n5_));(try simp only [Act.put,List.setIfInBounds_toArray,List.set_cons_zero,List.set_cons_succ]);go_cut [] (fun wc=>∃ (kq:Nat) (x497002_42:Int) (x497003_42:Int),ae (bC.j1 kq a5 x16_15 l0 l6 x497000_15 x497001_15 x497002_42 x497003_42 a2 a3 a4 = some r) ∧ ae (kq ≤ kj15) ∧ ae (Kd.R k30 30 wc w0.heap.size (fun k_=>(P6_ k_ ∨ w.heap.size ≤ k_) ∧ k_ ≠ gb496) (.slice Ao9 l6.length co9) l6) ∧ ae (wc.heap[gb486]? = some (.cells #[(.slice A0 l0.length c0),(.slice Ao9 l6.length co9)] 63 (0,0))) ∧ ae (wc.heap[gb496]? = some (.cells #[.int .i64 x497000_15,.int .i64 x497001_15,.int .i64 x497002_42,.int .i64 x497003_42,.int .i64 a2,.int .i64 a3,.int .i64 a4] 30 (0,0))) ∧ ae (Kept w wc (fun k_=>P6_ k_)) ∧ ae (Below w0.heap.size w0 wc))
      case first =>
       have H:=HC43.out;clear HC43;by_cases c47:t493 = true
       ·subst c47;replace H:((gu.f kj15 t491 (⟨#[67,111,110,116,101,110,116,45,84,114,97,110,115,102,101,114,45,69,110,99,111,100,105,110,103]⟩ : ByteArray)).bind fun bt506=>((oC.f kj15 bt506.1).bind fun t508=>(bC.j1 kj15 a5 x16_15 l0 l6 x497000_15 x497001_15 t508 (wrap64 (a1 + t492)) a2 a3 a4))) = some r:=dS;replace H:=oB H;obtain ⟨⟨t506,t507⟩,A48,H⟩:=H;try dsimp only at H
        replace H:=oB H;obtain ⟨t508,A49,H⟩:=H;try dsimp only at H
        have H':=aM H;clear H;obtain ⟨Ao50,co50,eo50⟩:=Kd.bn HO_12.out;subst eo50;go_wp2_with (first | ((with_reducible refine gC 49 rfl ?_);refine ah (some 68) Tryz.func49 #[.slice Ao50 t491.length co50,.string (⟨#[67,111,110,116,101,110,116,45,84,114,97,110,115,102,101,114,45,69,110,99,111,100,105,110,103]⟩ : ByteArray)] ?_;(with_reducible refine (gu.calls kj15 _ _ t491 (⟨#[67,111,110,116,101,110,116,45,84,114,97,110,115,102,101,114,45,69,110,99,111,100,105,110,103]⟩ : ByteArray) t506 t507 _ ?side1 ?side2 A48.out).mono ?_);(case side1=>exact dO HO_12.out);(case side2=>exact (Kd.aV HO_12.out).2.1);rintro e w51 ⟨rfl,hb⟩;refine ⟨_,rfl,?_⟩;replace HO_12:=aM (Kd.aY (bR HO_12) hb);replace HO_487001:=aM (Kd.aY (bR HO_487001) hb);replace BK486:=aM (bQ BK486 hb);replace BK496:=aM (bQ BK496 hb);replace HK:=aM (Kept.below (S:=(fun k_=>P6_ k_)) (iC GW486.out GW496.out) hb);replace HB:=aM (au (dB GE486 GE496) hb);(try clear hi)) | ((with_reducible refine gC 50 rfl ?_);refine ah (some 72) Tryz.func50 #[.string t506] ?_;(with_reducible refine (oC.calls kj15 t506 t508 _ A49.out).mono ?_);rintro e w52 ⟨rfl,hb⟩;refine ⟨_,rfl,?_⟩;replace HO_12:=aM (Kd.aY (bR HO_12) hb);replace HO_487001:=aM (Kd.aY (bR HO_487001) hb);replace BK486:=aM (bQ BK486 hb);replace BK496:=aM (bQ BK496 hb);replace HK:=aM (Kept.below (S:=(fun k_=>P6_ k_)) (iC GW486.out GW496.out) hb);replace HB:=aM (au (dB GE486 GE496) hb);have hnb53:=NB496_486.out;have hnc53:=NB486_496.out;obtain ⟨hcz54_0,hcz54_1,hcz54_2,hcz54_3,hcz54_4,hcz54_5,hcz54_6,hfz54_0,hfz54_1,hfz54_2,hfz54_3,hfz54_4,hfz54_5,hfz54_6⟩:=dY BK496.out));go_meet
        case rel=>exact ⟨_,(t508),(wrap64 (a1 + t492)),H',⟨gW HJ15.out⟩,⟨by (with_reducible repeat (first | apply Kd.R_alloc | apply Kd.dE | apply Kd.dm));exact Kd.aU (Kd.aK (p:=⟨gb496,3,none⟩) (Kd.aK (p:=⟨gb496,2,none⟩) (Kd.aU HO_487001.out (fun k_ hk=>(⟨hk,hk.2⟩ : _ ∧ k_ ≠ gb496))) (fun _ hk=>hk.2) (.int .i64 t508)) (fun _ hk=>hk.2) (.int .i64 (wrap64 (a1 + t492)))) (fun _ hk=>⟨hk.1.1,hk.1.2⟩)⟩,⟨jR NB486_496.out BK486.out⟩,⟨by (with_reducible repeat (first | refine ak ?_ _ | refine aj ?_ | refine ai ?_ _));refine aI (cs:=#[.int .i64 x497000_15,.int .i64 x497001_15,.int .i64 t508,.int .i64 a1,.int .i64 a2,.int .i64 a3,.int .i64 a4]) ?_ 3 _ rfl;(with_reducible repeat (first | refine ak ?_ _ | refine aj ?_ | refine ai ?_ _));refine aI (cs:=#[.int .i64 x497000_15,.int .i64 x497001_15,.int .i64 1,.int .i64 a1,.int .i64 a2,.int .i64 a3,.int .i64 a4]) ?_ 2 _ rfl;(with_reducible repeat (first | refine ak ?_ _ | refine aj ?_ | refine ai ?_ _));exact BK496.out⟩,⟨iC GW486.out GW496.out⟩,⟨dB GE486 GE496⟩⟩
       replace c47:=Bool.eq_false_iff.mpr c47;subst c47;replace H:(bC.j1 kj15 a5 x16_15 l0 l6 x497000_15 x497001_15 1 a1 a2 a3 a4) = some r:=dP;have H':=aM H;clear H;go_wp2;go_meet
       case rel=>exact ⟨_,(1),(a1),H',⟨gW HJ15.out⟩,⟨bR HO_487001⟩,⟨bL BK486⟩,⟨bL BK496⟩,⟨iC GW486.out GW496.out⟩,⟨dB GE486 GE496⟩⟩
      case rest =>
       clear HC43;try clear c1
       try clear c8
       try clear c8b0
       try clear c8b1
       try clear c12
       try clear c12b0
       try clear c12b1
       try clear c13
       try clear c13b0
       try clear c13b1
       try clear c14
       try clear c14b0
       try clear c14b1
       try clear c20
       try clear q20
       try clear hcz11_0
       try clear hcz11_1
       try clear hcz11_0
       try clear hcz11_1
       try clear hcz24_0
       try clear hcz24_1
       try clear hcz24_2
       try clear hcz24_3
       try clear hcz24_4
       try clear hcz24_5
       try clear hcz24_6
       try clear hcz45_0
       try clear hcz45_1
       try clear hcz45_2
       try clear hcz45_3
       try clear hcz45_4
       try clear hcz45_5
       try clear hcz45_6
       try clear hfz11_0
       try clear hfz11_1
       try clear hfz11_0
       try clear hfz11_1
       try clear hfz24_0
       try clear hfz24_1
       try clear hfz24_2
       try clear hfz24_3
       try clear hfz24_4
       try clear hfz24_5
       try clear hfz24_6
       try clear hfz45_0
       try clear hfz45_1
       try clear hfz45_2
       try clear hfz45_3
       try clear hfz45_4
       try clear hfz45_5
       try clear hfz45_6
       try clear q020
       try clear q20
       obtain ⟨kq,x497002_42,x497003_42,HA,HJ42,HO_487001,BK486,BK496,HK,HB⟩:=hcut
       cases kq with
       | zero=>exact absurd HA.out (by simp [bC.j1])
       | succ kj42 =>
        have H:=HA.out;clear HA;simp only [bC.j1] at H;by_cases c55:l6.length < 2513169434916
        ·rw [if_pos c55] at H;have LMc55:=aM c55;clear c55;obtain ⟨y509,hy509⟩ : ∃ y_:List (aH),y_ = (l6 ++ [(⟨x497000_15,x497001_15,x497002_42,x497003_42,a2,a3,a4⟩ : aH)]):=⟨_,rfl⟩;replace H:(if x497000_15 = 2 then (bC.j2 kj42 a5 x16_15 (decide ((wrap64 (a5 + 1)) ≥ 3)) l0 y509 x497000_15 x497001_15 x497002_42 x497003_42 a2 a3 a4) else (bC.j2 kj42 a5 x16_15 true l0 y509 x497000_15 x497001_15 x497002_42 x497003_42 a2 a3 a4)) = some r:=bg hy509;have Ny509:=aM hy509;clear hy509;have HC56:=aM H;clear H;try go_wp2
         replace HO_487001:=aM (Kd.dm HO_487001.out);replace BK486:=aM (aj BK486.out);replace BK496:=aM (aj BK496.out);replace HK:=aM (Kept.drew HK.out);replace HB:=aM (iP HB.out);refine mF (n:=11) (S:=fun w'=>w'.cell? ⟨gb486,0,none⟩ = some (.slice A0 l0.length c0) ∧ w'.cell? ⟨gb486,1,none⟩ = some (.slice Ao9 l6.length co9) ∧ w'.cell? ⟨gb496,0,none⟩ = some (.int .i64 x497000_15) ∧ w'.cell? ⟨gb496,1,none⟩ = some (.int .i64 x497001_15) ∧ w'.cell? ⟨gb496,2,none⟩ = some (.int .i64 x497002_42) ∧ w'.cell? ⟨gb496,3,none⟩ = some (.int .i64 x497003_42) ∧ w'.cell? ⟨gb496,4,none⟩ = some (.int .i64 a2) ∧ w'.cell? ⟨gb496,5,none⟩ = some (.int .i64 a3) ∧ w'.cell? ⟨gb496,6,none⟩ = some (.int .i64 a4)) (ds:=[10]) (ay 11 0) (by kernel_rfl) rfl rfl ⟨(cu BK486.out 0).trans rfl,(cu BK486.out 1).trans rfl,(cu BK496.out 0).trans rfl,(cu BK496.out 1).trans rfl,(cu BK496.out 2).trans rfl,(cu BK496.out 3).trans rfl,(cu BK496.out 4).trans rfl,(cu BK496.out 5).trans rfl,(cu BK496.out 6).trans rfl⟩ (fun hHeld=>?_);refine nz bC.vw bC.xg (fun HT_ HW_=>?_);generalize wc.drew = w57 at HO_487001 BK486 BK496 HK HB hHeld ⊢;refine aX (i:=0) (N:=some 78) (ay 11 1) (h:=?_);refine aX (i:=1) (N:=some 79) (ay 11 3) (h:=?_);refine aX (i:=2) (N:=some 80) (ay 11 7) (h:=?_);refine aX (i:=3) (N:=some 81) (ay 11 15) (h:=?_);refine gI (i:=4) (N:=some 82) (v:=?_) (a':=?_) (ay 11 31) rfl rfl (iD HT_.out HW_.out (by kernel_rfl)) (fun _ _ _ h=>h) (Or.inl ⟨by rfl,?_⟩) hHeld ?_ ?_;rotate_left
         ·rintro w' ⟨s0,s1,s2,s3,s4,s5,s6,s7,s8⟩;go_simp;with_reducible rfl
         rotate_left
         ·simp only [Act.put,List.setIfInBounds_toArray,List.set_cons_zero,List.set_cons_succ,bV,dh];rfl
         refine gI (i:=5) (N:=some 83) (v:=?_) (a':=?_) (ay 11 63) rfl rfl (iD HT_.out HW_.out (by kernel_rfl)) (fun _ _ _ h=>h) (Or.inl ⟨by rfl,?_⟩) hHeld ?_ ?_;rotate_left
         ·rintro w' ⟨s0,s1,s2,s3,s4,s5,s6,s7,s8⟩;go_simp;with_reducible rfl
         rotate_left
         ·simp only [Act.put,List.setIfInBounds_toArray,List.set_cons_zero,List.set_cons_succ,bV,dh];rfl
         refine fQ (i:=6) (N:=some 84) (ay 11 127) rfl rfl (fO HT_.out (by kernel_rfl)) (by decide) (fun K hK=>?_);refine CE (w1:=?_) (v:=?_) (by rfl) rfl ?_ ?_;rotate_left 2
         ·go_simp;constructor
          ·rfl
          rfl
         refine hK.out _ _ ⟨(cu (ai BK486.out _) 0).trans rfl,(cu (ai BK486.out _) 1).trans rfl,(cu (ai BK496.out _) 0).trans rfl,(cu (ai BK496.out _) 1).trans rfl,(cu (ai BK496.out _) 2).trans rfl,(cu (ai BK496.out _) 3).trans rfl,(cu (ai BK496.out _) 4).trans rfl,(cu (ai BK496.out _) 5).trans rfl,(cu (ai BK496.out _) 6).trans rfl⟩ (fun hHeld=>?_);clear hK K;refine dM (N:=some 84) (h:=?_);refine fQ (i:=7) (N:=some 85) (ay 11 255) rfl rfl (fO HT_.out (by kernel_rfl)) (by decide) (fun K hK=>?_);refine Kd.D5 k30 (w0:=w0) w0.heap.size (by rfl) (.tmp 82) (.tmp 84) 25 30 (.agg #[(.int .i64 0),(.int .i64 0),(.int .i64 0),(.int .i64 0),(.int .i64 0),(.int .i64 0),(.int .i64 0)]) 56 rfl Tryz.underlying25 info30 rfl (by decide) (by omega) (.slice Ao9 l6.length co9) l6 (⟨x497000_15,x497001_15,x497002_42,x497003_42,a2,a3,a4⟩ : aH) [.int .i64 x497000_15,.int .i64 x497001_15,.int .i64 x497002_42,.int .i64 x497003_42,.int .i64 a2,.int .i64 a3,.int .i64 a4] (fun k_=>(P6_ k_ ∨ w.heap.size ≤ k_) ∧ k_ ≠ gb496) (fun _=>False) rfl rfl ?aP (fun _ hk=>hk.elim) ?aF ?aO ?aB ?aS ?aL ?_;(case aP=>exact yL _ _ _ (⟨x497000_15,x497001_15,x497002_42,x497003_42,a2,a3,a4⟩ : aH));(case aB=>exact (dB GE486 GE496));(case aF=>exact (fun k_ hk=>⟨(.inr (Nat.le_trans (wM GW486.out GW496.out) hk)),Kd.rZ (g:=gb496) (o:=.cells #[.int .i64 x497000_15,.int .i64 x497001_15,.int .i64 x497002_42,.int .i64 x497003_42,.int .i64 a2,.int .i64 a3,.int .i64 a4] 30 (0,0)) (bL BK496) k_ hk⟩));(case aO=>exact (bR HO_487001));(case aS=>exact (aJ (dB GE486 GE496)));(case aL=>have:=LMc55.out;omega);intro v510 w58 ho hb hg hat;rw [← Ny509.out] at ho;have n0_:=aM (qO (g:=gb486) (o:=.cells #[.slice A0 l0.length c0,.slice Ao9 l6.length co9] 63 (0,0)) (bL BK486) hg (Kd.pK HO_487001.out BK486.out (by decide)));have n1_:=aM (qO (g:=gb496) (o:=.cells #[.int .i64 x497000_15,.int .i64 x497001_15,.int .i64 x497002_42,.int .i64 x497003_42,.int .i64 a2,.int .i64 a3,.int .i64 a4] 30 (0,0)) (bL BK496) hg (Kd.qw HO_487001.out (fun _ hk=>hk.2)));have n2_:=aM hb;have n3_:=aM (Kept.kK (S:=(fun k_=>P6_ k_)) hg (iC GW486.out GW496.out) (fun k_ e_=>(HO_487001.out.1 k_ e_).1));have n4_:=aM ho;clear BK486;clear BK496;clear HB;clear HK;clear HO_487001;have BK486:=n0_;have BK496:=n1_;have HB:=n2_;have HK:=n3_;have HO511:=n4_;clear n0_ n1_ n2_ n3_ n4_;clear ho hb hg hat;obtain ⟨Ao59,co59,eo59⟩:=Kd.bn HO511.out;(first | subst eo59 | (injection eo59 with f1_ f2_ f3_;have f4_:=f1_.symm;have f5_:=f3_.symm;clear f1_ f2_ f3_;subst f4_;subst f5_));refine hK.out _ _ ⟨(cu BK486.out 0).trans rfl,(cu BK486.out 1).trans rfl,(cu BK496.out 0).trans rfl,(cu BK496.out 1).trans rfl,(cu BK496.out 2).trans rfl,(cu BK496.out 3).trans rfl,(cu BK496.out 4).trans rfl,(cu BK496.out 5).trans rfl,(cu BK496.out 6).trans rfl⟩ (fun hHeld=>?_);clear hK K;refine dM (N:=some 85) (h:=?_);refine aX (i:=8) (N:=some 86) (ay 11 511) (h:=?_);refine aX (i:=9) (N:=some 87) (ay 11 1023) (h:=?_);refine wO (i:=10) (N:=none) (ay 11 2047) rfl rfl (fO HT_.out (by kernel_rfl)) (by decide) (fun K hK=>?_);have hs60:w58.cell? ⟨gb486,1,none⟩ = some (.slice Ao9 l6.length co9):=(cu BK486.out 1).trans rfl;have hfs60:=jO BK486.out 1;have hns60_1:=NB496_486.out;have hms60_1:=NB486_496.out;refine wE (w1:=?_) (by rfl) rfl ?_ ?_;rotate_left
         ·go_simp;rfl
         refine hK.out _ _ ?_;clear hK K;refine mg (nS HT_.out (by kernel_rfl)) ?_;go_upto_region 13 with (fail);go_cut [95] (fun v95 wc=>∃ (kq:Nat) (x95_55:Bool),v95 = .bool x95_55 ∧ ae (bC.j2 kq a5 x16_15 x95_55 l0 y509 x497000_15 x497001_15 x497002_42 x497003_42 a2 a3 a4 = some r) ∧ ae (kq ≤ kj42) ∧ ae (Kd.R k30 30 wc w0.heap.size (fun k_=>(P6_ k_ ∨ w.heap.size ≤ k_) ∧ k_ ≠ gb496) (.slice Ao59 y509.length co59) y509) ∧ ae (wc.heap[gb486]? = some (.cells #[(.slice A0 l0.length c0),(.slice Ao59 y509.length co59)] 63 (0,0))) ∧ ae (wc.heap[gb496]? = some (.cells #[.int .i64 x497000_15,.int .i64 x497001_15,.int .i64 x497002_42,.int .i64 x497003_42,.int .i64 a2,.int .i64 a3,.int .i64 a4] 30 (0,0))) ∧ ae (Kept w wc (fun k_=>P6_ k_)) ∧ ae (Below w0.heap.size w0 wc))
         case first =>
          have H:=HC56.out;clear HC56;by_cases c61:x497000_15 = 2
          ·rw [if_pos c61] at H;have c61b0:(x497000_15 == 2) = true:=beq_iff_eq.mpr c61;have c61b1:(x497000_15 != 2) = false:=bne_eq_false_iff_eq.mpr c61;clear c61;(first | rw [c61b0] | (simp only [bV,dh];rw [c61b0]) | skip);have H':=aM H;clear H;have hnb62:=NB496_486.out;have hnc62:=NB486_496.out;obtain ⟨hcz63_0,hcz63_1,hcz63_2,hcz63_3,hcz63_4,hcz63_5,hcz63_6,hfz63_0,hfz63_1,hfz63_2,hfz63_3,hfz63_4,hfz63_5,hfz63_6⟩:=dY BK496.out;go_wp2;go_meet
           case rel=>exact ⟨_,(decide ((wrap64 (a5 + 1)) ≥ 3)),bS,H',⟨jM HJ15.out HJ42.out⟩,⟨by (with_reducible repeat (first | apply Kd.R_alloc | apply Kd.dE | apply Kd.dm));exact Kd.aU (Kd.aK (p:=⟨gb486,1,none⟩) (Kd.gz HO511.out BK486.out (by decide)) (fun _ hk=>hk.2) (.slice Ao59 y509.length co59)) (fun _ hk=>⟨hk.1.1,hk.1.2⟩)⟩,⟨by (with_reducible repeat (first | refine ak ?_ _ | refine aj ?_ | refine ai ?_ _));refine aI (cs:=#[.slice A0 l0.length c0,.slice Ao9 l6.length co9]) ?_ 1 _ rfl;(with_reducible repeat (first | refine ak ?_ _ | refine aj ?_ | refine ai ?_ _));exact BK486.out⟩,⟨l7 NB496_486.out BK496.out⟩,⟨iC GW486.out GW496.out⟩,⟨dB GE486 GE496⟩⟩
          rw [if_neg c61] at H;have c61b0:(x497000_15 == 2) = false:=beq_eq_false_iff_ne.mpr c61;have c61b1:(x497000_15 != 2) = true:=bne_iff_ne.mpr c61;(first | rw [c61b0] | (simp only [bV,dh];rw [c61b0]) | skip);have H':=aM H;clear H;have hnb64:=NB496_486.out;have hnc64:=NB486_496.out;obtain ⟨hcz65_0,hcz65_1,hcz65_2,hcz65_3,hcz65_4,hcz65_5,hcz65_6,hfz65_0,hfz65_1,hfz65_2,hfz65_3,hfz65_4,hfz65_5,hfz65_6⟩:=dY BK496.out;go_wp2;go_meet
          case rel=>exact ⟨_,(true),bS,H',⟨jM HJ15.out HJ42.out⟩,⟨by (with_reducible repeat (first | apply Kd.R_alloc | apply Kd.dE | apply Kd.dm));exact Kd.aU (Kd.aK (p:=⟨gb486,1,none⟩) (Kd.gz HO511.out BK486.out (by decide)) (fun _ hk=>hk.2) (.slice Ao59 y509.length co59)) (fun _ hk=>⟨hk.1.1,hk.1.2⟩)⟩,⟨by (with_reducible repeat (first | refine ak ?_ _ | refine aj ?_ | refine ai ?_ _));refine aI (cs:=#[.slice A0 l0.length c0,.slice Ao9 l6.length co9]) ?_ 1 _ rfl;(with_reducible repeat (first | refine ak ?_ _ | refine aj ?_ | refine ai ?_ _));exact BK486.out⟩,⟨l7 NB496_486.out BK496.out⟩,⟨iC GW486.out GW496.out⟩,⟨dB GE486 GE496⟩⟩
         case rest =>
          clear HC56;try clear c1
          try clear c8
          try clear c8b0
          try clear c8b1
          try clear c12
          try clear c12b0
          try clear c12b1
          try clear c13
          try clear c13b0
          try clear c13b1
          try clear c14
          try clear c14b0
          try clear c14b1
          try clear c20
          try clear q20
          try clear c55
          try clear hcz11_0
          try clear hcz11_1
          try clear hcz11_0
          try clear hcz11_1
          try clear hcz24_0
          try clear hcz24_1
          try clear hcz24_2
          try clear hcz24_3
          try clear hcz24_4
          try clear hcz24_5
          try clear hcz24_6
          try clear hcz45_0
          try clear hcz45_1
          try clear hcz45_2
          try clear hcz45_3
          try clear hcz45_4
          try clear hcz45_5
          try clear hcz45_6
          try clear hfz11_0
          try clear hfz11_1
          try clear hfz11_0
          try clear hfz11_1
          try clear hfz24_0
          try clear hfz24_1
          try clear hfz24_2
          try clear hfz24_3
          try clear hfz24_4
          try clear hfz24_5
          try clear hfz24_6
          try clear hfz45_0
          try clear hfz45_1
          try clear hfz45_2
          try clear hfz45_3
          try clear hfz45_4
          try clear hfz45_5
          try clear hfz45_6
          try clear q020
          try clear q20
          obtain ⟨kq,x95_55,rfl,HA,HJ55,HO_487001,BK486,BK496,HK,HB⟩:=hcut
          cases kq with
          | zero=>exact absurd HA.out (by simp [bC.j2])
          | succ kj55 =>
           have H:=HA.out;clear HA;simp only [bC.j2] at H;by_cases c66:x95_55 = true
           ·subst c66;replace H:(some y509) = some r:=dS;obtain rfl:=Option.some.inj H;have hnb67:=NB486_496.out;have hnc67:=NB496_486.out;obtain ⟨hcz68_0,hcz68_1,hfz68_0,hfz68_1⟩:=cC2 BK486.out;go_wp2;(try simp only [Exit.inBlock,Exit.then]);first | refine bodyPost_ret (results_none rfl _ _ _) rfl ?_ | refine bodyPost_end (results_none rfl _ _ _) rfl ?_
            exact ⟨rfl,_,bL BK486,mZ HO_487001.out,dB GE486 GE496,iC GW486.out GW496.out⟩
           replace c66:=Bool.eq_false_iff.mpr c66;subst c66;replace H:((eu.f kj55 x16_15 (⟨#[98,111,117,110,100,97,114,121,61]⟩ : ByteArray)).bind fun bt512=>(if bt512.2 = true then ((kM.f (bt512.1.size:Int) 1 20).bind fun t514=>(bC.j3 kj55 a5 bt512.1 (!t514) l0 y509 x497000_15 x497001_15 x497002_42 x497003_42 a2 a3 a4)) else (bC.j3 kj55 a5 bt512.1 true l0 y509 x497000_15 x497001_15 x497002_42 x497003_42 a2 a3 a4))) = some r:=dP;replace H:=oB H;obtain ⟨⟨t512,t513⟩,A69,H⟩:=H;try dsimp only at H
           have HC70:=aM H;clear H;go_upto_region 15 with (first | ((with_reducible refine gC 25 rfl ?_);refine ah (some 98) Tryz.func25 #[.string x16_15,.string (⟨#[98,111,117,110,100,97,114,121,61]⟩ : ByteArray)] ?_;(with_reducible refine (eu.calls kj55 x16_15 (⟨#[98,111,117,110,100,97,114,121,61]⟩ : ByteArray) t512 t513 _ A69.out).mono ?_);rintro e w71 ⟨rfl,hb⟩;refine ⟨_,rfl,?_⟩;replace HO_487001:=aM (Kd.aY (bR HO_487001) hb);replace BK486:=aM (bQ BK486 hb);replace BK496:=aM (bQ BK496 hb);replace HK:=aM (Kept.below (S:=(fun k_=>P6_ k_)) (iC GW486.out GW496.out) hb);replace HB:=aM (au (dB GE486 GE496) hb);(try clear hi)));(try simp only [Act.put,List.setIfInBounds_toArray,List.set_cons_zero,List.set_cons_succ]);go_cut [108] (fun v108 wc=>∃ (kq:Nat) (x108_69:Bool),v108 = .bool x108_69 ∧ ae (bC.j3 kq a5 t512 x108_69 l0 y509 x497000_15 x497001_15 x497002_42 x497003_42 a2 a3 a4 = some r) ∧ ae (kq ≤ kj55) ∧ ae (Kd.R k30 30 wc w0.heap.size (fun k_=>(P6_ k_ ∨ w.heap.size ≤ k_) ∧ k_ ≠ gb496) (.slice Ao59 y509.length co59) y509) ∧ ae (wc.heap[gb486]? = some (.cells #[(.slice A0 l0.length c0),(.slice Ao59 y509.length co59)] 63 (0,0))) ∧ ae (wc.heap[gb496]? = some (.cells #[.int .i64 x497000_15,.int .i64 x497001_15,.int .i64 x497002_42,.int .i64 x497003_42,.int .i64 a2,.int .i64 a3,.int .i64 a4] 30 (0,0))) ∧ ae (Kept w wc (fun k_=>P6_ k_)) ∧ ae (Below w0.heap.size w0 wc))
           case first =>
            have H:=HC70.out;clear HC70;by_cases c72:t513 = true
            ·subst c72;replace H:((kM.f (t512.size:Int) 1 20).bind fun t514=>(bC.j3 kj55 a5 t512 (!t514) l0 y509 x497000_15 x497001_15 x497002_42 x497003_42 a2 a3 a4)) = some r:=dS;replace H:=oB H;obtain ⟨t514,A73,H⟩:=H;try dsimp only at H
             have H':=aM H;clear H;go_wp2_with (first | (go_at_call 34;(with_reducible refine (kM.calls (t512.size:Int) 1 20 t514 _ A73.out).mono ?_);rintro e w' ⟨rfl,⟨nd,rfl⟩⟩));go_meet
             case rel=>exact ⟨_,(!t514),bS,H',⟨by have:=HJ15.out;have:=HJ42.out;have:=HJ55.out;first | omega | exact Nat.le_refl _⟩,⟨bR HO_487001⟩,⟨bL BK486⟩,⟨bL BK496⟩,⟨iC GW486.out GW496.out⟩,⟨dB GE486 GE496⟩⟩
            replace c72:=Bool.eq_false_iff.mpr c72;subst c72;replace H:(bC.j3 kj55 a5 t512 true l0 y509 x497000_15 x497001_15 x497002_42 x497003_42 a2 a3 a4) = some r:=dP;have H':=aM H;clear H;go_wp2;go_meet
            case rel=>exact ⟨_,(true),bS,H',⟨by have:=HJ15.out;have:=HJ42.out;have:=HJ55.out;first | omega | exact Nat.le_refl _⟩,⟨bR HO_487001⟩,⟨bL BK486⟩,⟨bL BK496⟩,⟨iC GW486.out GW496.out⟩,⟨dB GE486 GE496⟩⟩
           case rest =>
            clear HC70;try clear c1
            try clear c8
            try clear c8b0
            try clear c8b1
            try clear c12
            try clear c12b0
            try clear c12b1
            try clear c13
            try clear c13b0
            try clear c13b1
            try clear c14
            try clear c14b0
            try clear c14b1
            try clear c20
            try clear q20
            try clear c55
            try clear c66
            try clear hcz11_0
            try clear hcz11_1
            try clear hcz11_0
            try clear hcz11_1
            try clear hcz24_0
            try clear hcz24_1
            try clear hcz24_2
            try clear hcz24_3
            try clear hcz24_4
            try clear hcz24_5
            try clear hcz24_6
            try clear hcz45_0
            try clear hcz45_1
            try clear hcz45_2
            try clear hcz45_3
            try clear hcz45_4
            try clear hcz45_5
            try clear hcz45_6
            try clear hfz11_0
            try clear hfz11_1
            try clear hfz11_0
            try clear hfz11_1
            try clear hfz24_0
            try clear hfz24_1
            try clear hfz24_2
            try clear hfz24_3
            try clear hfz24_4
            try clear hfz24_5
            try clear hfz24_6
            try clear hfz45_0
            try clear hfz45_1
            try clear hfz45_2
            try clear hfz45_3
            try clear hfz45_4
            try clear hfz45_5
            try clear hfz45_6
            try clear q020
            try clear q20
            obtain ⟨kq,x108_69,rfl,HA,HJ69,HO_487001,BK486,BK496,HK,HB⟩:=hcut
            cases kq with
            | zero=>exact absurd HA.out (by simp [bC.j3])
            | succ kj69 =>
             have H:=HA.out;clear HA;simp only [bC.j3] at H;have HQ_:=aM H;clear H;have hnb75:=NB486_496.out;have hnc75:=NB496_486.out;obtain ⟨hcz76_0,hcz76_1,hfz76_0,hfz76_1⟩:=cC2 BK486.out;have H:=HQ_.out;clear HQ_;by_cases c74:x108_69 = true
             ·subst c74;replace H:(some y509) = some r:=dS;obtain rfl:=Option.some.inj H;go_wp2;(try simp only [Exit.inBlock,Exit.then]);first | refine bodyPost_ret (results_none rfl _ _ _) rfl ?_ | refine bodyPost_end (results_none rfl _ _ _) rfl ?_
              exact ⟨rfl,_,bL BK486,mZ HO_487001.out,dB GE486 GE496,iC GW486.out GW496.out⟩
             replace c74:=Bool.eq_false_iff.mpr c74;subst c74;replace H:((mW.f y509).bind fun t515=>((dF.f kj69 l0 x497003_42 a2 t512).bind fun t516=>(bC.l0 kj69 a5 (wrap64 (t515 - 1)) t516 (t516.length:Int) 0 l0 y509))) = some r:=dP;replace H:=oB H;obtain ⟨t515,A77,H⟩:=H;try dsimp only at H
             replace H:=oB H;obtain ⟨t516,A78,H⟩:=H;try dsimp only at H
             have H':=aM H;clear H;go_wp2_with (first | ((with_reducible refine gC 35 rfl ?_);refine ah (some 113) Tryz.func35 #[.slice Ao59 y509.length co59] ?_;(with_reducible refine (mW.calls _ _ y509 t515 _ ?side1 ?side2 A77.out).mono ?_);(case side1=>exact dO HO_487001.out);(case side2=>exact (Kd.aV HO_487001.out).2.1);rintro e w' ⟨rfl,⟨nd,rfl⟩⟩;refine ⟨_,rfl,?_⟩;obtain ⟨hcz81_0,hcz81_1,hcz81_2,hcz81_3,hcz81_4,hcz81_5,hcz81_6,hfz81_0,hfz81_1,hfz81_2,hfz81_3,hfz81_4,hfz81_5,hfz81_6⟩:=dY BK496.out) | ((with_reducible refine gC 51 rfl ?_);refine ah (some 121) Tryz.func51 #[.pointer (some ⟨gb486,0,none⟩),.int .i64 x497003_42,.int .i64 a2,.string t512] ?_;(with_reducible refine (dF.calls kj69 A0 c0 l0 x497003_42 a2 t512 t516 _ gb486 ?sideg ?side1 ?side2 A78.out).mono ?_);(case sideg=>refine (cu (g:=gb486) (cs:=#[.slice A0 l0.length c0,.slice Ao59 y509.length co59]) (t:=63) ?_ 0).trans rfl;(with_reducible repeat (first | refine ak ?_ _ | refine aj ?_ | refine ai ?_ _));exact BK486.out);(case side1=>exact Kd.tX HR0.out (iC GW486.out GW496.out));(case side2=>exact HC0.out);rintro e w82 ⟨v517,rfl,ho0,hb⟩;refine ⟨_,rfl,?_⟩;replace HO_487001:=aM (Kd.aY (bR HO_487001) hb);have HO518:=aM (Kd.aQ (Kd.wG (M:=fun k_=>(P6_ k_ ∨ w.heap.size ≤ k_)) ho0 (wM GW486.out GW496.out) (fun k_ h_=>.inr h_)) (aJ (dB GE486 GE496)));replace BK486:=aM (bQ BK486 hb);replace BK496:=aM (bQ BK496 hb);replace HK:=aM (Kept.below (S:=(fun k_=>P6_ k_)) (iC GW486.out GW496.out) hb);replace HB:=aM (au (dB GE486 GE496) hb);(try clear ho0);obtain ⟨Ao83,co83,eo83⟩:=Kd.bn HO518.out;subst eo83));go_loopg [123] kj69 (fun kq v123 w'=>∃ (x123_5:Int) (x487001_5:List (aH)) (u487001:Value),v123 = .int .i64 x123_5 ∧ ae (bC.l0 kq a5 (wrap64 (t515 - 1)) t516 (t516.length:Int) x123_5 l0 x487001_5 = some r) ∧ ae (kq ≤ kj69) ∧ ae (Kd.R kS 84 w' w0.heap.size (fun k_=>(P6_ k_ ∨ w.heap.size ≤ k_)) (.slice Ao83 t516.length co83) t516) ∧ ae (Kd.R k30 30 w' w0.heap.size (fun k_=>(P6_ k_ ∨ w.heap.size ≤ k_) ∧ k_ ≠ gb496) u487001 x487001_5) ∧ ae (w'.heap[gb486]? = some (.cells #[(.slice A0 l0.length c0),u487001] 63 (0,0))) ∧ ae (w'.heap[gb496]? = some (.cells #[.int .i64 x497000_15,.int .i64 x497001_15,.int .i64 x497002_42,.int .i64 x497003_42,.int .i64 a2,.int .i64 a3,.int .i64 a4] 30 (0,0))) ∧ ae (Kept w w' (fun k_=>P6_ k_)) ∧ ae (Below w0.heap.size w0 w'))
             case atStart=>exact ⟨(0),(y509),(.slice Ao59 y509.length co59),bS,H',⟨Nat.le_refl _⟩,⟨mZ HO518.out⟩,⟨bR HO_487001⟩,⟨bL BK486⟩,⟨bL BK496⟩,⟨iC GW486.out GW496.out⟩,⟨dB GE486 GE496⟩⟩
             case round =>
              clear H';try clear c1
              try clear c8
              try clear c8b0
              try clear c8b1
              try clear c12
              try clear c12b0
              try clear c12b1
              try clear c13
              try clear c13b0
              try clear c13b1
              try clear c14
              try clear c14b0
              try clear c14b1
              try clear c20
              try clear q20
              try clear c55
              try clear c66
              try clear c74
              try clear hcz11_0
              try clear hcz11_1
              try clear hcz11_0
              try clear hcz11_1
              try clear hcz24_0
              try clear hcz24_1
              try clear hcz24_2
              try clear hcz24_3
              try clear hcz24_4
              try clear hcz24_5
              try clear hcz24_6
              try clear hcz45_0
              try clear hcz45_1
              try clear hcz45_2
              try clear hcz45_3
              try clear hcz45_4
              try clear hcz45_5
              try clear hcz45_6
              try clear hcz76_0
              try clear hcz76_1
              try clear hcz76_0
              try clear hcz76_1
              try clear hcz81_0
              try clear hcz81_1
              try clear hcz81_2
              try clear hcz81_3
              try clear hcz81_4
              try clear hcz81_5
              try clear hcz81_6
              try clear hfz11_0
              try clear hfz11_1
              try clear hfz11_0
              try clear hfz11_1
              try clear hfz24_0
              try clear hfz24_1
              try clear hfz24_2
              try clear hfz24_3
              try clear hfz24_4
              try clear hfz24_5
              try clear hfz24_6
              try clear hfz45_0
              try clear hfz45_1
              try clear hfz45_2
              try clear hfz45_3
              try clear hfz45_4
              try clear hfz45_5
              try clear hfz45_6
              try clear hfz76_0
              try clear hfz76_1
              try clear hfz76_0
              try clear hfz76_1
              try clear hfz81_0
              try clear hfz81_1
              try clear hfz81_2
              try clear hfz81_3
              try clear hfz81_4
              try clear hfz81_5
              try clear hfz81_6
              try clear q020
              try clear q20
              obtain ⟨x123_5,x487001_5,u487001,rfl,HA,HK5,HO_121,HO_487001,BK486,BK496,HK,HB⟩:=hrel
              cases gk with
              | zero=>exact absurd HA.out (by simp [bC.l0])
              | succ k5 =>
               have H:=HA.out;clear HA;simp only [bC.l0] at H;by_cases c84:x123_5 < (t516.length:Int)
               ·rw [if_pos c84] at H;have c84b0:=decide_eq_true c84;clear c84;by_cases c85:0 ≤ x123_5
                ·rw [if_pos c85] at H;have c85b0:=decide_eq_true c85;clear c85;by_cases c86:x123_5 < (t516.length:Int)
                 ·rw [if_pos c86] at H;have c86b0:=decide_eq_true c86;clear c86;replace H:=oB H;obtain ⟨t521,A87,H⟩:=H;try dsimp only at H
                  have H':=aM H;clear H;have p519:0 ≤ (x123_5:Int):=pI;have q519:x123_5 < (t516.length:Int):=pI;obtain ⟨ad519,e519,hx519_0,hx519_1⟩:=Gn (Kd.aV HO_121.out).2.2 x123_5 p519 q519;cases e519;replace p519:=eq_true p519;replace q519:=eq_true q519;go_wp2_with (first | ((with_reducible refine bF (N:=25) rfl ?_);(try (refine kQ (by rfl) ?_;dsimp only));refine dW ?hg (N:=25) ?hd (cs:=#[.int .i64 0,.int .i64 0]) (t:=84) ?hr ?_;(case hd=>rfl);(case hg=>rfl);(case hr=>exact aW);intro gb520 hg w88 hbox hb;replace HO_121:=aM (Kd.aY (Kd.sW (bR HO_121) gb520 (Nat.le_of_eq hg.symm)) hb);replace HO_487001:=aM (Kd.aY (bR HO_487001) hb);have BK520:=aM hbox;have GW520:=aM ((by rw [hg];exact (wM GW486.out GW496.out):w.heap.size ≤ gb520));replace HK:=aM (Kept.below (S:=(fun k_=>P6_ k_)) (iC GW486.out GW496.out) hb);have GE520:=aM ((by rw [hg];exact (aJ (dB GE486 GE496)):w0.heap.size ≤ gb520));replace HB:=aM (au (dB GE486 GE496) hb);have NB486_520:=aM ((by rw [hg];exact Nat.ne_of_lt (fH (g:=gb486) (o:=.cells #[.slice A0 l0.length c0,u487001] 63 (0,0)) (bL BK486)):gb486 ≠ gb520));have NB520_486:=aM ((by rw [hg];exact Nat.ne_of_gt (fH (g:=gb486) (o:=.cells #[.slice A0 l0.length c0,u487001] 63 (0,0)) (bL BK486)):gb520 ≠ gb486));replace BK486:=aM (bQ BK486 hb);have NB496_520:=aM ((by rw [hg];exact Nat.ne_of_lt (fH (g:=gb496) (o:=.cells #[.int .i64 x497000_15,.int .i64 x497001_15,.int .i64 x497002_42,.int .i64 x497003_42,.int .i64 a2,.int .i64 a3,.int .i64 a4] 30 (0,0)) (bL BK496)):gb496 ≠ gb520));have NB520_496:=aM ((by rw [hg];exact Nat.ne_of_gt (fH (g:=gb496) (o:=.cells #[.int .i64 x497000_15,.int .i64 x497001_15,.int .i64 x497002_42,.int .i64 x497003_42,.int .i64 a2,.int .i64 a3,.int .i64 a4] 30 (0,0)) (bL BK496)):gb520 ≠ gb496));replace BK496:=aM (bQ BK496 hb);clear hb hbox hg;have hnb89:=NB520_486.out;have hnc89:=NB486_520.out;have hnb90:=NB520_496.out;have hnc90:=NB496_520.out;obtain ⟨hcz91_0,hcz91_1,hfz91_0,hfz91_1⟩:=cC2 BK520.out) | ((with_reducible refine jF (t:=84) (p:=25) rfl ?_);refine jI (t:=84) (p:=25) (v:=?vo_w92) (w1:=((w88.setCell ⟨gb520,0,none⟩ (.int .i64 ((ji t516 x123_5).f0))).setCell ⟨gb520,1,none⟩ (.int .i64 ((ji t516 x123_5).f1)))) ?hg ?ho ?hn ?hr ?_;(case ho=>rfl);(case hg=>rfl);(case hn=>rfl);(case hr=>exact aW);intro w92 hw;have n0_:ae (Kd.R kS 84 w92 w0.heap.size (fun k_=>(P6_ k_ ∨ w.heap.size ≤ k_) ∧ k_ ≠ gb520) (.slice (some ad519) t516.length co83) t516):=⟨(by rw [hw];exact (by (with_reducible repeat (first | apply Kd.R_alloc | apply Kd.dE | apply Kd.dm));exact Kd.aU (Kd.aK (p:=⟨gb520,1,none⟩) (Kd.aK (p:=⟨gb520,0,none⟩) (Kd.aU HO_121.out (fun k_ hk=>(⟨hk,hk.2⟩ : _ ∧ k_ ≠ gb520))) (fun _ hk=>hk.2) (.int .i64 ((ji t516 x123_5).f0))) (fun _ hk=>hk.2) (.int .i64 ((ji t516 x123_5).f1))) (fun _ hk=>⟨hk.1.1,hk.1.2⟩)))⟩;have n1_:ae (Kd.R k30 30 w92 w0.heap.size (fun k_=>(P6_ k_ ∨ w.heap.size ≤ k_) ∧ k_ ≠ gb496) u487001 x487001_5):=⟨(by rw [hw];exact (by (with_reducible repeat (first | apply Kd.R_alloc | apply Kd.dE | apply Kd.dm));exact Kd.aU (Kd.aK (p:=⟨gb520,1,none⟩) (Kd.aK (p:=⟨gb520,0,none⟩) (Kd.gz HO_487001.out BK520.out (by decide)) (fun _ hk=>hk.2) (.int .i64 ((ji t516 x123_5).f0))) (fun _ hk=>hk.2) (.int .i64 ((ji t516 x123_5).f1))) (fun _ hk=>⟨hk.1.1,hk.1.2⟩)))⟩;have n2_:ae (w92.heap[gb486]? = some (.cells #[.slice A0 l0.length c0,u487001] 63 (0,0))):=⟨(by rw [hw];exact (jR NB486_520.out BK486.out))⟩;have n3_:ae (w92.heap[gb496]? = some (.cells #[.int .i64 x497000_15,.int .i64 x497001_15,.int .i64 x497002_42,.int .i64 x497003_42,.int .i64 a2,.int .i64 a3,.int .i64 a4] 30 (0,0))):=⟨(by rw [hw];exact (jR NB496_520.out BK496.out))⟩;have n4_:ae (w92.heap[gb520]? = some (.cells #[.int .i64 ((ji t516 x123_5).f0),.int .i64 ((ji t516 x123_5).f1)] 84 (0,0))):=⟨(by rw [hw];exact (by (with_reducible repeat (first | refine ak ?_ _ | refine aj ?_ | refine ai ?_ _));refine aI (cs:=#[.int .i64 ((ji t516 x123_5).f0),.int .i64 0]) ?_ 1 _ rfl;(with_reducible repeat (first | refine ak ?_ _ | refine aj ?_ | refine ai ?_ _));refine aI (cs:=#[.int .i64 0,.int .i64 0]) ?_ 0 _ rfl;(with_reducible repeat (first | refine ak ?_ _ | refine aj ?_ | refine ai ?_ _));exact BK520.out))⟩;have n5_:ae (Kept w w92 (fun k_=>P6_ k_)):=⟨(by rw [hw];exact (qG GW486.out GW496.out GW520.out))⟩;have n6_:ae (Below w0.heap.size w0 w92):=⟨(by rw [hw];exact (jA GE486.out GE496.out GE520.out))⟩;clear hw;clear HO_121;clear HO_487001;clear BK486;clear BK496;clear BK520;clear HK;clear HB;have HO_121:=n0_;have HO_487001:=n1_;have BK486:=n2_;have BK496:=n3_;have BK520:=n4_;have HK:=n5_;have HB:=n6_;clear n0_ n1_ n2_ n3_ n4_ n5_ n6_;obtain ⟨hcz93_0,hcz93_1,hfz93_0,hfz93_1⟩:=cC2 BK520.out;have hnb94:=NB486_496.out;have hnc94:=NB496_486.out;obtain ⟨hcz95_0,hcz95_1,hfz95_0,hfz95_1⟩:=cC2 BK486.out;obtain ⟨Ao96,co96,eo96⟩:=Kd.bn HO_487001.out;subst eo96) | ((with_reducible refine gC 31 rfl ?_);refine ah (some 138) Tryz.func31 #[.pointer (some ⟨gb486,0,none⟩),.int .i64 ((ji t516 x123_5).f0),.int .i64 ((ji t516 x123_5).f1),.int .i64 (wrap64 (t515 - 1)),.int .i64 (wrap64 (x123_5 + 1)),.int .i64 (wrap64 (a5 + 1))] ?_;(with_reducible refine (ih k5 (by have:=HJ15.out;have:=HJ42.out;have:=HJ55.out;have:=HJ69.out;have:=HK5.out;omega) A0 c0 l0 ((ji t516 x123_5).f0) ((ji t516 x123_5).f1) (wrap64 (t515 - 1)) (wrap64 (x123_5 + 1)) (wrap64 (a5 + 1)) (fun k_=>some k_ = (.slice Ao96 x487001_5.length co96:Value).ownBlock ∨ k_ = gb486) (.slice Ao96 x487001_5.length co96) x487001_5 t521 w0 _ gb486 ?sidg GE486.out (.inr rfl) ?side1 ?side2 ?side3 ?side4 A87.out).mono ?_);(case sidg=>(with_reducible repeat (first | refine ak ?_ _ | refine aj ?_ | refine ai ?_ _));exact BK486.out);(case side1=>exact jA GE486.out GE496.out GE520.out);(case side2=>exact Kd.y8 HR0.out (qG GW486.out GW496.out GW520.out) (fun k_ hs_=>hs_.elim (fun hs_=>(fun e_=>(HO_487001.out.1 k_ e_.symm).1) hs_) (fun e_=>.inl (by rw [e_];exact GW486.out))));(case side3=>exact HC0.out);(case side4=>exact Kd.aU (Kd.rW rfl HO_487001.out) (fun k_ hk_=>.inl hk_));rintro e w97 ⟨rfl,v522,hbk_,ho0,hb,hkp⟩;refine ⟨_,rfl,?_⟩;have n0_:=aM (Kd.aU (ok':=fun k_=>(P6_ k_ ∨ w.heap.size ≤ k_) ∧ k_ ≠ gb520) (Kd.vK (Kd.gz (Kd.jH HO_121.out (Kd.lF HO_487001.out) (by decide)) BK486.out (by decide)) hkp (fun k_ hk_ hs_=>hs_.elim (fun hs_=>hk_.1.2 hs_) (fun e_=>hk_.2 e_))) (fun k_ hk_=>⟨hk_.1.1.1.1,hk_.1.1.1.2⟩));have n1_:=aM hbk_;have n2_:=aM (sV (bL BK496) hkp (fun hs_=>hs_.elim (fun hs_=>(fun e_=>(Kd.qw HO_487001.out (fun _ hk=>hk.2)) e_) hs_) (fun e_=>NB496_486.out e_)));have n3_:=aM (sV (bL BK520) hkp (fun hs_=>hs_.elim (fun hs_=>(fun e_=>(Kd.pK HO_487001.out BK520.out (by decide)) e_) hs_) (fun e_=>NB520_486.out e_)));have n4_:=aM (Kd.aU (ok':=fun k_=>(P6_ k_ ∨ w.heap.size ≤ k_) ∧ k_ ≠ gb496) ho0 (fun k_ hk_=>⟨Or.elim hk_ (fun hs_=>hs_.elim (fun hs_=>(HO_487001.out.1 k_ (hs_).symm).1) (fun e_=>.inl (by rw [e_];exact GW486.out))) (fun hn_=>(.inr (Nat.le_trans (by first | exact HK.out.1 | exact (show Kept w _ (fun k_=>P6_ k_) from qG GW486.out GW496.out GW520.out).1) hn_))),Or.elim hk_ (fun hs_=>hs_.elim (fun hs_=>fun e_=>(Kd.qw HO_487001.out (fun _ hk=>hk.2)) (by rw [← e_];exact hs_)) (fun e_=>(by rw [e_];exact NB486_496.out))) (fun hn_=>(Kd.rZ (g:=gb496) (o:=.cells #[.int .i64 x497000_15,.int .i64 x497001_15,.int .i64 x497002_42,.int .i64 x497003_42,.int .i64 a2,.int .i64 a3,.int .i64 a4] 30 (0,0)) (bL BK496) k_ hn_))⟩));have n5_:=aM (Kept.pG (S:=(fun k_=>P6_ k_)) (qG GW486.out GW496.out GW520.out) hkp (fun k_ hs_=>hs_.elim (fun hs_=>(fun e_=>(HO_487001.out.1 k_ e_.symm).1) hs_) (fun e_=>.inl (by rw [e_];exact GW486.out))));have n6_:=aM hb;clear HO_121;clear BK486;clear BK496;clear BK520;clear HK;clear HB;clear HO_487001;have HO_121:=n0_;have BK486:=n1_;have BK496:=n2_;have BK520:=n3_;have HO523:=n4_;have HK:=n5_;have HB:=n6_;clear n0_ n1_ n2_ n3_ n4_ n5_ n6_;(try clear hkp);(try clear ho0);obtain ⟨Ao98,co98,eo98⟩:=Kd.bn HO523.out;subst eo98;obtain ⟨hcz99_0,hcz99_1,hfz99_0,hfz99_1⟩:=cC2 BK486.out));go_roundg k5
                  case measure=>have:=HJ15.out;have:=HJ42.out;have:=HJ55.out;have:=HJ69.out;have:=HK5.out;omega
                  case rel=>exact ⟨(wrap64 (x123_5 + 1)),(t521),(.slice Ao98 t521.length co98),bS,H',⟨by have:=HJ15.out;have:=HJ42.out;have:=HJ55.out;have:=HJ69.out;have:=HK5.out;omega⟩,⟨mZ HO_121.out⟩,⟨bR HO523⟩,⟨bL BK486⟩,⟨by (with_reducible repeat (first | refine ak ?_ _ | refine aj ?_ | refine ai ?_ _));(with_reducible repeat (first | refine ak ?_ _ | refine aj ?_ | refine ai ?_ _));exact BK496.out⟩,⟨qG GW486.out GW496.out GW520.out⟩,⟨jA GE486.out GE496.out GE520.out⟩⟩
                 rw [if_neg c86] at H;exact aB H
                rw [if_neg c85] at H;exact aB H
               rw [if_neg c84] at H;have c84b0:=decide_eq_false c84;clear c84;obtain rfl:=Option.some.inj H;have hnb100:=NB486_496.out;have hnc100:=NB496_486.out;obtain ⟨hcz101_0,hcz101_1,hfz101_0,hfz101_1⟩:=cC2 BK486.out;go_wp2;(try simp only [Exit.inBlock,Exit.then]);first | refine bodyPost_ret (results_none rfl _ _ _) rfl ?_ | refine bodyPost_end (results_none rfl _ _ _) rfl ?_
               exact ⟨rfl,_,bL BK486,mZ HO_487001.out,dB GE486 GE496,iC GW486.out GW496.out⟩
        rw [if_neg c55] at H;exact aB H
   rw [if_neg c14] at H;exact aB H
  rw [if_neg c13] at H;exact aB H
 rw [if_neg c12] at H;exact aB H
end Go.Proofs.YtecpanfndodjgaaGreatDoor.PNested
