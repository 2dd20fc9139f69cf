/- Part of the proof;words that it uses. -/
import Derived.Test.YtecpanfndodjgaaGreatDoorPNestedx0
import Derived.Test.YtecpanfndodjgaaGreatDoorPNestedx2
import Derived.Test.YtecpanfndodjgaaGreatDoorPNestedx4
namespace Go.Proofs.YtecpanfndodjgaaGreatDoor.PNested
set_option maxHeartbeats 8000000
set_option maxRecDepth 100000
open Go.RowKit Go.Proofs.YtecpanfndodjgaaGreatDoorW.PrintWords Go.Proofs.YtecpanfndodjgaaGreatDoorW.PrintLast Go.Proofs.YtecpanfndodjgaaGreatDoorW.PrintMore
attribute [local go_sem] jJ jL
set_option linter.unusedVariables false
set_option linter.unusedSimpArgs false
def qy.f (k:Nat) (s0_0:List Int) (s0_1:Int):Option (List Int × Int):=(gX.f k s0_0 s0_1).bind fun bt362=>((dC.f s0_0 bt362.2 8).bind fun bt366=>(if bt366.1 = 0 then (if (bt362.1.length:Int) > 0 then ((dC.f s0_0 bt366.2 (bt362.1.length:Int)).bind fun bt368=>((kC.f s0_0 bt368.2 (([10,45,58,98]:List Int))).bind fun bt373=>(if 0 ≤ bt368.1 then (if bt368.1 < (bt362.1.length:Int) then (some ((bt362.1.set (bt368.1:Int).toNat ((bt373.1) % 256)),bt373.2)) else (none)) else (none)))) else (some (bt362.1,bt366.2))) else (if bt366.1 = 1 then ((dC.f s0_0 bt366.2 (wrap64 ((bt362.1.length:Int) + 1))).bind fun bt376=>(if 0 ≤ bt376.1 then (if bt376.1 ≤ (bt362.1.length:Int) then (some ((bt362.1.take (bt376.1:Int).toNat),bt376.2)) else (none)) else (none))) else (if bt366.1 = 2 then ((jv.f s0_0 bt366.2 5).bind fun bt381=>(if bt381.1 = true then (if 401 ≤ 281474976710656 then (some ((List.replicate 401 0),bt381.2)) else (none)) else (some (bt362.1,bt381.2)))) else (some (bt362.1,bt366.2))))))
theorem qy.calls (k:Nat) (g:Nat) (s0_0:List Int) (s0_1:Int) (r1:List Int) (r2:Int) (w0 w:World) (hI:az w0 w g s0_0 s0_1) (hB:Below w0.heap.size w0 w) (h:qy.f k s0_0 s0_1 = some (r1,r2)) :
  Calls Tryz.prog 13 #[.pointer (some ⟨g,0,none⟩)] w fun e w'=>∃ v0_:Value,e = .returned (v0_) ∧ Kd.R (Kd.int .u8) 5 w' w.heap.size (fun _=>True) v0_ r1 ∧ az w0 w' g s0_0 r2 ∧ Below w0.heap.size w0 w' ∧ aA w w' g none:=by
 have HI0:=aM hI;have HK:=aM (aA.refl w g none);have HL:=aM hB.size;clear hI;have HW0:=aM hB.size;have HB:=aM hB;clear hB;have H:((gX.f k s0_0 s0_1).bind fun bt362=>((dC.f s0_0 bt362.2 8).bind fun bt366=>(if bt366.1 = 0 then (if (bt362.1.length:Int) > 0 then ((dC.f s0_0 bt366.2 (bt362.1.length:Int)).bind fun bt368=>((kC.f s0_0 bt368.2 (([10,45,58,98]:List Int))).bind fun bt373=>(if 0 ≤ bt368.1 then (if bt368.1 < (bt362.1.length:Int) then (some ((bt362.1.set (bt368.1:Int).toNat ((bt373.1) % 256)),bt373.2)) else (none)) else (none)))) else (some (bt362.1,bt366.2))) else (if bt366.1 = 1 then ((dC.f s0_0 bt366.2 (wrap64 ((bt362.1.length:Int) + 1))).bind fun bt376=>(if 0 ≤ bt376.1 then (if bt376.1 ≤ (bt362.1.length:Int) then (some ((bt362.1.take (bt376.1:Int).toNat),bt376.2)) else (none)) else (none))) else (if bt366.1 = 2 then ((jv.f s0_0 bt366.2 5).bind fun bt381=>(if bt381.1 = true then (if 401 ≤ 281474976710656 then (some ((List.replicate 401 0),bt381.2)) else (none)) else (some (bt362.1,bt381.2)))) else (some (bt362.1,bt366.2))))))) = some (r1,r2):=h;clear h;replace H:=oB H;obtain ⟨⟨t362,t365⟩,A2,H⟩:=H;try dsimp only at H
 replace H:=oB H;obtain ⟨⟨t366,t367⟩,A3,H⟩:=H;try dsimp only at H
 have HQ_:=aM H;clear H;go_enter Tryz.func13,Tryz.ntmps13;have H:=HQ_.out;clear HQ_;by_cases c4:t366 = 0
 ·rw [if_pos c4] at H;have c4b0:(t366 == 0) = true:=beq_iff_eq.mpr c4;have c4b1:(t366 != 0) = false:=bne_eq_false_iff_eq.mpr c4;clear c4;(try simp only [c4b0,c4b1]);by_cases c5:(t362.length:Int) > 0
  ·rw [if_pos c5] at H;have c5b0:decide (0 < (t362.length:Int)) = true:=decide_eq_true c5;have c5b1:decide (0 < t362.length) = true:=decide_eq_true (by omega);clear c5;replace H:=oB H;obtain ⟨⟨t368,t369⟩,A6,H⟩:=H;try dsimp only at H
   obtain ⟨y370,hy370⟩ : ∃ y_:List Int,y_ = (([10,45,58,98]:List Int)):=⟨_,rfl⟩;replace H:((kC.f s0_0 t369 y370).bind fun bt373=>(if 0 ≤ t368 then (if t368 < (t362.length:Int) then (some ((t362.set (t368:Int).toNat ((bt373.1) % 256)),bt373.2)) else (none)) else (none))) = some (r1,r2):=bg hy370;have Ny370:=aM hy370;clear hy370;replace H:=oB H;obtain ⟨⟨t373,t374⟩,A7,H⟩:=H;try dsimp only at H
   (try simp only [c5b0,c5b1]);by_cases c8:0 ≤ t368
   ·rw [if_pos c8] at H;have c8b0:=decide_eq_true c8;clear c8;by_cases c9:t368 < (t362.length:Int)
    ·rw [if_pos c9] at H;have c9b0:=decide_eq_true c9;clear c9;obtain ⟨y375,hy375⟩ : ∃ y_:List Int,y_ = (t362.set (t368:Int).toNat ((t373) % 256)):=⟨_,rfl⟩;replace H:(some (y375,t374)) = some (r1,r2):=bg hy375;have Ny375:=aM hy375;clear hy375;simp only [Option.some.injEq,Prod.mk.injEq] at H;obtain ⟨rfl,rfl⟩:=H;go_wp2_with (first | ((with_reducible refine gC 28 rfl ?_);refine ah (some 5) Tryz.func28 #[.pointer (some ⟨g,0,none⟩)] ?_;(with_reducible refine (gX.calls k g s0_0 s0_1 t362 t365 w0 _ ?side1 ?side2 A2.out).mono ?_);(case side1=>exact aG HI0.out);(case side2=>exact aT HI0.out);rintro e w11 ⟨v363,rfl,ho0,hi,hb,hk⟩;refine ⟨_,rfl,?_⟩;have HO364:=aM (Kd.aQ ho0 (dK (w:=w) (g:=g) (row:=none) aC));replace HK:=aM (aA.trans aC hk (.inl rfl));replace HB:=aM hb;replace HI0:=aM hi;(try clear ho0)) | ((with_reducible refine gC 21 rfl ?_);refine ah (some 7) Tryz.func21 #[.pointer (some ⟨g,0,none⟩),.int .i64 8] ?_;(with_reducible refine (dC.calls g s0_0 t365 8 t366 t367 w0 _ ?side1 ?side2 A3.out).mono ?_);(case side1=>exact aG HI0.out);(case side2=>exact aT HI0.out);rintro e w12 ⟨rfl,hi,hb,hk⟩;refine ⟨_,rfl,?_⟩;replace HO364:=aM (Kd.aU (Kd.fP (az.apart (show az w0 _ g s0_0 t365 from aG HI0.out) (bR HO364) (by decide)) hk (fun _ h=>h.2)) (fun _ h=>h.1));replace HK:=aM (aA.trans aC hk (.inl rfl));replace HB:=aM hb;replace HI0:=aM hi;obtain ⟨Ao13,co13,eo13⟩:=Kd.bn HO364.out;subst eo13) | ((with_reducible refine gC 21 rfl ?_);refine ah (some 17) Tryz.func21 #[.pointer (some ⟨g,0,none⟩),.int .i64 (t362.length:Int)] ?_;(with_reducible refine (dC.calls g s0_0 t367 (t362.length:Int) t368 t369 w0 _ ?side1 ?side2 A6.out).mono ?_);(case side1=>exact aG HI0.out);(case side2=>exact aT HI0.out);rintro e w14 ⟨rfl,hi,hb,hk⟩;refine ⟨_,rfl,?_⟩;replace HO364:=aM (Kd.aU (Kd.fP (az.apart (show az w0 _ g s0_0 t367 from aG HI0.out) (bR HO364) (by decide)) hk (fun _ h=>h.2)) (fun _ h=>h.1));replace HK:=aM (aA.trans aC hk (.inl rfl));replace HB:=aM hb;replace HI0:=aM hi;(try clear hi)) | ((with_reducible refine bF (N:=19) rfl ?_);refine Kd.fG (Kd.int .i64) _ 2 ?hg (N:=19) ?hd (xs:=([10,45,58,98]:List Int)) (inner:=[.int .i64 10,.int .i64 45,.int .i64 58,.int .i64 98]) (ok:=fun _=>True) (okp:=fun _=>True) ?hr ?hp (fun _ hk=>hk) trivial (Below.refl _ _) (Nat.le_refl _) (by simp) ?_;(case hd=>rfl);(case hg=>rfl);(case hr=>exact aW);(case hp=>exact (ax.one (show Kd.M (Kd.int .i64) _ _ _ 10 [.int .i64 10] from rfl) (ax.one (show Kd.M (Kd.int .i64) _ _ _ 45 [.int .i64 45] from rfl) (ax.one (show Kd.M (Kd.int .i64) _ _ _ 58 [.int .i64 58] from rfl) (ax.one (show Kd.M (Kd.int .i64) _ _ _ 98 [.int .i64 98] from rfl) (ax.none _ _))))));intro v371 w15 ho16 hb hg_ hnew_;clear hg_ hnew_;(first | rw [← Ny370.out] at ho16 | (simp only [Int.reduceToNat] at ho16;rw [← Ny370.out] at ho16));replace HO364:=aM (Kd.aY (bR HO364) hb);have HO372:=aM (Kd.aQ ho16 (dK (w:=w) (g:=g) (row:=none) aC));replace HK:=aM (aA.trans aC (aA.of_below hb g none) (.inl rfl));replace HB:=aM (au (aT HI0.out) hb);replace HI0:=aM (az.below (aG HI0.out) hb);clear hb ho16;obtain ⟨Ao17,co17,eo17⟩:=Kd.bn HO372.out;subst eo17) | ((with_reducible refine gC 29 rfl ?_);refine ah (some 20) Tryz.func29 #[.pointer (some ⟨g,0,none⟩),.slice Ao17 y370.length co17] ?_;(with_reducible refine (kC.calls g s0_0 t369 _ _ y370 t373 t374 w0 _ ?side1 ?side2 ?side3 ?side4 ?side5 A7.out).mono ?_);(case side1=>exact aG HI0.out);(case side2=>exact aT HI0.out);(case side3=>exact dO HO372.out);(case side4=>exact (Kd.aV HO372.out).2.1);(case side5=>exact uX (az.own_ne HI0.out HO372.out (by decide)));rintro e w18 ⟨rfl,hi,hb,hk⟩;refine ⟨_,rfl,?_⟩;replace HO364:=aM (Kd.aU (Kd.fP (az.apart (show az w0 _ g s0_0 t369 from aG HI0.out) (bR HO364) (by decide)) hk (fun _ h=>h.2)) (fun _ h=>h.1));replace HO372:=aM (Kd.aU (Kd.fP (az.apart (show az w0 _ g s0_0 t369 from aG HI0.out) (bR HO372) (by decide)) hk (fun _ h=>h.2)) (fun _ h=>h.1));replace HK:=aM (aA.trans aC hk (.inl rfl));replace HB:=aM hb;replace HI0:=aM hi;have p10:0 ≤ (t368:Int):=pI;have q10:(t368:Int) < ((t362.length:Int):Int):=pI;obtain ⟨go10,co10,eo10,gb10,gl10,cl10,HG10⟩:=Kd.nM HO364.out (by omega);(first | cases eo10 | (injection eo10 with ea_ en_ ec_;(first | subst ea_ | (injection ea_ with ea_;subst ea_));subst ec_;clear en_));have GB10:=aM gb10;have GG10:=aM HG10;clear gb10 gl10 HG10;obtain ⟨hx10_0,hf10_0⟩:=Kd.jZ 0 HO364.out (t368:Int) p10 q10;replace p10:=eq_true p10;replace q10:=eq_true q10;obtain ⟨hy19_,hz19_⟩:=Kd.jZ 0 HO364.out (t368:Int) (pI) (pI);have HP19:=Kd.oV HO364.out (t368:Int) ((t373) % 256)) | ((with_reducible refine jF (t:=5) (p:=22) rfl ?_);refine jI (t:=5) (p:=22) (v:=?vo_w20) (w1:=(w18.setCell ⟨go10,(t368:Int).toNat,none⟩ (.int .u8 ((t373) % 256)))) ?hg ?ho ?hn ?hr ?_;(case ho=>rfl);(case hg=>rfl);(case hn=>rfl);(case hr=>exact aW);intro w20 hw;have hg:w18.grownBy w20 (some go10):=(by rw [hw];exact HP19.2);have hp_:Kd.R (Kd.int .u8) 5 w20 w.heap.size (fun _=>True) (.slice (some ⟨go10,0,none⟩) t362.length co13) y375:=(by rw [hw,Ny375.out];exact HP19.1);clear HP19;replace HI0:=aM (az.grown (aG HI0.out) hg (az.own_ne HI0.out HO364.out (by decide)));replace HO372:=aM (Kd.qL (v:=(.slice (some ⟨go10,0,none⟩) t362.length co13)) (bR HO372) (Kd.lF HO364.out) (by decide) hg);replace HB:=aM ((by rw [hw];exact lV (HB.out) (Nat.le_trans HL.out GB10.out):Below w0.heap.size w0 w20));replace HK:=aM (aA.trans aC (aA.kK hg g) (Kd.mM HO364.out));replace HO364:=aM hp_;clear hg hw hp_));go_ret;exact ⟨_,bE,bR HO364,aG HI0.out,aT HI0.out,aC⟩
    rw [if_neg c9] at H;exact aB H
   rw [if_neg c8] at H;exact aB H
  rw [if_neg c5] at H;have c5b0:decide (0 < (t362.length:Int)) = false:=decide_eq_false c5;have c5b1:decide (0 < t362.length) = false:=decide_eq_false (by omega);clear c5;simp only [Option.some.injEq,Prod.mk.injEq] at H;obtain ⟨rfl,rfl⟩:=H;(try simp only [c5b0,c5b1]);go_wp2_with (first | ((with_reducible refine gC 28 rfl ?_);refine ah (some 5) Tryz.func28 #[.pointer (some ⟨g,0,none⟩)] ?_;(with_reducible refine (gX.calls k g s0_0 s0_1 t362 t365 w0 _ ?side1 ?side2 A2.out).mono ?_);(case side1=>exact aG HI0.out);(case side2=>exact aT HI0.out);rintro e w21 ⟨v363,rfl,ho0,hi,hb,hk⟩;refine ⟨_,rfl,?_⟩;have HO364:=aM (Kd.aQ ho0 (dK (w:=w) (g:=g) (row:=none) aC));replace HK:=aM (aA.trans aC hk (.inl rfl));replace HB:=aM hb;replace HI0:=aM hi;(try clear ho0)) | ((with_reducible refine gC 21 rfl ?_);refine ah (some 7) Tryz.func21 #[.pointer (some ⟨g,0,none⟩),.int .i64 8] ?_;(with_reducible refine (dC.calls g s0_0 t365 8 t366 t367 w0 _ ?side1 ?side2 A3.out).mono ?_);(case side1=>exact aG HI0.out);(case side2=>exact aT HI0.out);rintro e w22 ⟨rfl,hi,hb,hk⟩;refine ⟨_,rfl,?_⟩;replace HO364:=aM (Kd.aU (Kd.fP (az.apart (show az w0 _ g s0_0 t365 from aG HI0.out) (bR HO364) (by decide)) hk (fun _ h=>h.2)) (fun _ h=>h.1));replace HK:=aM (aA.trans aC hk (.inl rfl));replace HB:=aM hb;replace HI0:=aM hi;obtain ⟨Ao23,co23,eo23⟩:=Kd.bn HO364.out;subst eo23));go_ret;exact ⟨_,bE,bR HO364,aG HI0.out,aT HI0.out,aC⟩
 rw [if_neg c4] at H;have c4b0:(t366 == 0) = false:=beq_eq_false_iff_ne.mpr c4;have c4b1:(t366 != 0) = true:=bne_iff_ne.mpr c4;(try simp only [c4b0,c4b1]);by_cases c24:t366 = 1
 ·rw [if_pos c24] at H;have c24b0:(t366 == 1) = true:=beq_iff_eq.mpr c24;have c24b1:(t366 != 1) = false:=bne_eq_false_iff_eq.mpr c24;clear c24;replace H:=oB H;obtain ⟨⟨t376,t377⟩,A25,H⟩:=H;try dsimp only at H
  (try simp only [c24b0,c24b1]);by_cases c26:0 ≤ t376
  ·rw [if_pos c26] at H;have c26b0:=eq_true c26;have c26b1:=decide_eq_true c26;clear c26;by_cases c27:t376 ≤ (t362.length:Int)
   ·rw [if_pos c27] at H;have c27b0:=eq_true c27;have c27b1:=decide_eq_true c27;clear c27;obtain ⟨y378,hy378⟩ : ∃ y_:List Int,y_ = (t362.take (t376:Int).toNat):=⟨_,rfl⟩;replace H:(some (y378,t377)) = some (r1,r2):=bg hy378;have Ny378:=aM hy378;clear hy378;simp only [Option.some.injEq,Prod.mk.injEq] at H;obtain ⟨rfl,rfl⟩:=H;go_wp2_with (first | ((with_reducible refine gC 28 rfl ?_);refine ah (some 5) Tryz.func28 #[.pointer (some ⟨g,0,none⟩)] ?_;(with_reducible refine (gX.calls k g s0_0 s0_1 t362 t365 w0 _ ?side1 ?side2 A2.out).mono ?_);(case side1=>exact aG HI0.out);(case side2=>exact aT HI0.out);rintro e w28 ⟨v363,rfl,ho0,hi,hb,hk⟩;refine ⟨_,rfl,?_⟩;have HO364:=aM (Kd.aQ ho0 (dK (w:=w) (g:=g) (row:=none) aC));replace HK:=aM (aA.trans aC hk (.inl rfl));replace HB:=aM hb;replace HI0:=aM hi;(try clear ho0)) | ((with_reducible refine gC 21 rfl ?_);refine ah (some 7) Tryz.func21 #[.pointer (some ⟨g,0,none⟩),.int .i64 8] ?_;(with_reducible refine (dC.calls g s0_0 t365 8 t366 t367 w0 _ ?side1 ?side2 A3.out).mono ?_);(case side1=>exact aG HI0.out);(case side2=>exact aT HI0.out);rintro e w29 ⟨rfl,hi,hb,hk⟩;refine ⟨_,rfl,?_⟩;replace HO364:=aM (Kd.aU (Kd.fP (az.apart (show az w0 _ g s0_0 t365 from aG HI0.out) (bR HO364) (by decide)) hk (fun _ h=>h.2)) (fun _ h=>h.1));replace HK:=aM (aA.trans aC hk (.inl rfl));replace HB:=aM hb;replace HI0:=aM hi;obtain ⟨Ao30,co30,eo30⟩:=Kd.bn HO364.out;subst eo30) | ((with_reducible refine gC 21 rfl ?_);refine ah (some 30) Tryz.func21 #[.pointer (some ⟨g,0,none⟩),.int .i64 (wrap64 ((t362.length:Int) + 1))] ?_;(with_reducible refine (dC.calls g s0_0 t367 (wrap64 ((t362.length:Int) + 1)) t376 t377 w0 _ ?side1 ?side2 A25.out).mono ?_);(case side1=>exact aG HI0.out);(case side2=>exact aT HI0.out);rintro e w31 ⟨rfl,hi,hb,hk⟩;refine ⟨_,rfl,?_⟩;replace HO364:=aM (Kd.aU (Kd.fP (az.apart (show az w0 _ g s0_0 t367 from aG HI0.out) (bR HO364) (by decide)) hk (fun _ h=>h.2)) (fun _ h=>h.1));replace HK:=aM (aA.trans aC hk (.inl rfl));replace HB:=aM hb;replace HI0:=aM hi;have q32:(t376:Int) ≤ ((t362.length:Int):Int):=pI;obtain ⟨i032,hi032,_,hsz32,_⟩:=info_parts info5;have hcut32:=FP (P:=Tryz.prog) 22 5 .i64 Tryz.underlying22 hi032 Ao30 t362.length co30 t376 (pI) q32 (Kd.aV HO364.out).2.1;have hr32:=Kd.BH (m:=(t376:Int).toNat) HO364.out (by omega);have hy32:y378.length = (t376:Int).toNat:=(by rw [Ny378.out,List.length_take];omega);rw [← Ny378.out] at hr32;rw [← hy32] at hr32 hcut32;clear hy32 hi032 hsz32 HO364;have HO380:=aM hr32;clear hr32;replace q32:=eq_true q32));go_ret;exact ⟨_,bE,bR HO380,aG HI0.out,aT HI0.out,aC⟩
   rw [if_neg c27] at H;exact aB H
  rw [if_neg c26] at H;exact aB H
 rw [if_neg c24] at H;have c24b0:(t366 == 1) = false:=beq_eq_false_iff_ne.mpr c24;have c24b1:(t366 != 1) = true:=bne_iff_ne.mpr c24;(try simp only [c24b0,c24b1]);by_cases c33:t366 = 2
 ·rw [if_pos c33] at H;have c33b0:(t366 == 2) = true:=beq_iff_eq.mpr c33;have c33b1:(t366 != 2) = false:=bne_eq_false_iff_eq.mpr c33;clear c33;replace H:=oB H;obtain ⟨⟨t381,t382⟩,A34,H⟩:=H;try dsimp only at H
  (try simp only [c33b0,c33b1]);by_cases c35:t381 = true
  ·subst c35;replace H:(if 401 ≤ 281474976710656 then (some ((List.replicate 401 0),t382)) else (none)) = some (r1,r2):=dS;by_cases c36:401 ≤ 281474976710656
   ·rw [if_pos c36] at H;have c36b0:=eq_true c36;have c36b1:=decide_eq_true c36;clear c36;obtain ⟨y383,hy383⟩ : ∃ y_:List Int,y_ = (List.replicate 401 0):=⟨_,rfl⟩;replace H:(some (y383,t382)) = some (r1,r2):=bg hy383;have Ny383:=aM hy383;clear hy383;simp only [Option.some.injEq,Prod.mk.injEq] at H;obtain ⟨rfl,rfl⟩:=H;go_wp2_with (first | ((with_reducible refine gC 28 rfl ?_);refine ah (some 5) Tryz.func28 #[.pointer (some ⟨g,0,none⟩)] ?_;(with_reducible refine (gX.calls k g s0_0 s0_1 t362 t365 w0 _ ?side1 ?side2 A2.out).mono ?_);(case side1=>exact aG HI0.out);(case side2=>exact aT HI0.out);rintro e w37 ⟨v363,rfl,ho0,hi,hb,hk⟩;refine ⟨_,rfl,?_⟩;have HO364:=aM (Kd.aQ ho0 (dK (w:=w) (g:=g) (row:=none) aC));replace HK:=aM (aA.trans aC hk (.inl rfl));replace HB:=aM hb;replace HI0:=aM hi;(try clear ho0)) | ((with_reducible refine gC 21 rfl ?_);refine ah (some 7) Tryz.func21 #[.pointer (some ⟨g,0,none⟩),.int .i64 8] ?_;(with_reducible refine (dC.calls g s0_0 t365 8 t366 t367 w0 _ ?side1 ?side2 A3.out).mono ?_);(case side1=>exact aG HI0.out);(case side2=>exact aT HI0.out);rintro e w38 ⟨rfl,hi,hb,hk⟩;refine ⟨_,rfl,?_⟩;replace HO364:=aM (Kd.aU (Kd.fP (az.apart (show az w0 _ g s0_0 t365 from aG HI0.out) (bR HO364) (by decide)) hk (fun _ h=>h.2)) (fun _ h=>h.1));replace HK:=aM (aA.trans aC hk (.inl rfl));replace HB:=aM hb;replace HI0:=aM hi;(try clear hi)) | ((with_reducible refine gC 30 rfl ?_);refine ah (some 35) Tryz.func30 #[.pointer (some ⟨g,0,none⟩),.int .i64 5] ?_;(with_reducible refine (jv.calls g s0_0 t367 5 true t382 w0 _ ?side1 ?side2 A34.out).mono ?_);(case side1=>exact aG HI0.out);(case side2=>exact aT HI0.out);rintro e w39 ⟨rfl,hi,hb,hk⟩;refine ⟨_,rfl,?_⟩;replace HO364:=aM (Kd.aU (Kd.fP (az.apart (show az w0 _ g s0_0 t367 from aG HI0.out) (bR HO364) (by decide)) hk (fun _ h=>h.2)) (fun _ h=>h.1));replace HK:=aM (aA.trans aC hk (.inl rfl));replace HB:=aM hb;replace HI0:=aM hi;(try clear hi)) | ((with_reducible refine bF (N:=36) rfl ?_);refine Kd.Dl (Kd.int .u8) _ 5 rfl (N:=36) rfl 22 _ _ rfl 401 rfl rfl Tryz.underlying22 (.int .u8 0) 1 info5 rfl (by decide) (by omega) 0 (ok:=fun _=>True) (okp:=fun _=>True) rfl (fun _ hk=>hk) trivial (by omega) (by omega) (Below.refl _ _) (Nat.le_refl _) ?_;intro v384 w40 ho41 hb hg_ hnew_;clear hg_ hnew_;(first | rw [← Ny383.out] at ho41 | (simp only [Int.reduceToNat] at ho41;rw [← Ny383.out] at ho41));have HO385:=aM (Kd.aQ (Kd.dn ho41 (Kd.aZ (bR HO364))) (dK (w:=w) (g:=g) (row:=none) aC));replace HO364:=aM (Kd.dD (bR HO364) (Kd.bT ho41) hb);replace HK:=aM (aA.trans aC (aA.of_below hb g none) (.inl rfl));replace HB:=aM (au (aT HI0.out) hb);replace HI0:=aM (az.below (aG HI0.out) hb);clear hb ho41));go_ret;exact ⟨_,bE,gB HO385.out,aG HI0.out,aT HI0.out,aC⟩
   rw [if_neg c36] at H;exact aB H
  replace c35:=Bool.eq_false_iff.mpr c35;subst c35;replace H:(some (t362,t382)) = some (r1,r2):=dP;simp only [Option.some.injEq,Prod.mk.injEq] at H;obtain ⟨rfl,rfl⟩:=H;go_wp2_with (first | ((with_reducible refine gC 28 rfl ?_);refine ah (some 5) Tryz.func28 #[.pointer (some ⟨g,0,none⟩)] ?_;(with_reducible refine (gX.calls k g s0_0 s0_1 t362 t365 w0 _ ?side1 ?side2 A2.out).mono ?_);(case side1=>exact aG HI0.out);(case side2=>exact aT HI0.out);rintro e w42 ⟨v363,rfl,ho0,hi,hb,hk⟩;refine ⟨_,rfl,?_⟩;have HO364:=aM (Kd.aQ ho0 (dK (w:=w) (g:=g) (row:=none) aC));replace HK:=aM (aA.trans aC hk (.inl rfl));replace HB:=aM hb;replace HI0:=aM hi;(try clear ho0)) | ((with_reducible refine gC 21 rfl ?_);refine ah (some 7) Tryz.func21 #[.pointer (some ⟨g,0,none⟩),.int .i64 8] ?_;(with_reducible refine (dC.calls g s0_0 t365 8 t366 t367 w0 _ ?side1 ?side2 A3.out).mono ?_);(case side1=>exact aG HI0.out);(case side2=>exact aT HI0.out);rintro e w43 ⟨rfl,hi,hb,hk⟩;refine ⟨_,rfl,?_⟩;replace HO364:=aM (Kd.aU (Kd.fP (az.apart (show az w0 _ g s0_0 t365 from aG HI0.out) (bR HO364) (by decide)) hk (fun _ h=>h.2)) (fun _ h=>h.1));replace HK:=aM (aA.trans aC hk (.inl rfl));replace HB:=aM hb;replace HI0:=aM hi;(try clear hi)) | ((with_reducible refine gC 30 rfl ?_);refine ah (some 35) Tryz.func30 #[.pointer (some ⟨g,0,none⟩),.int .i64 5] ?_;(with_reducible refine (jv.calls g s0_0 t367 5 false t382 w0 _ ?side1 ?side2 A34.out).mono ?_);(case side1=>exact aG HI0.out);(case side2=>exact aT HI0.out);rintro e w44 ⟨rfl,hi,hb,hk⟩;refine ⟨_,rfl,?_⟩;replace HO364:=aM (Kd.aU (Kd.fP (az.apart (show az w0 _ g s0_0 t367 from aG HI0.out) (bR HO364) (by decide)) hk (fun _ h=>h.2)) (fun _ h=>h.1));replace HK:=aM (aA.trans aC hk (.inl rfl));replace HB:=aM hb;replace HI0:=aM hi;(try clear hi)));go_ret;exact ⟨_,bE,bR HO364,aG HI0.out,aT HI0.out,aC⟩
 rw [if_neg c33] at H;have c33b0:(t366 == 2) = false:=beq_eq_false_iff_ne.mpr c33;have c33b1:(t366 != 2) = true:=bne_iff_ne.mpr c33;simp only [Option.some.injEq,Prod.mk.injEq] at H;obtain ⟨rfl,rfl⟩:=H;(try simp only [c33b0,c33b1]);go_wp2_with (first | ((with_reducible refine gC 28 rfl ?_);refine ah (some 5) Tryz.func28 #[.pointer (some ⟨g,0,none⟩)] ?_;(with_reducible refine (gX.calls k g s0_0 s0_1 t362 t365 w0 _ ?side1 ?side2 A2.out).mono ?_);(case side1=>exact aG HI0.out);(case side2=>exact aT HI0.out);rintro e w45 ⟨v363,rfl,ho0,hi,hb,hk⟩;refine ⟨_,rfl,?_⟩;have HO364:=aM (Kd.aQ ho0 (dK (w:=w) (g:=g) (row:=none) aC));replace HK:=aM (aA.trans aC hk (.inl rfl));replace HB:=aM hb;replace HI0:=aM hi;(try clear ho0)) | ((with_reducible refine gC 21 rfl ?_);refine ah (some 7) Tryz.func21 #[.pointer (some ⟨g,0,none⟩),.int .i64 8] ?_;(with_reducible refine (dC.calls g s0_0 t365 8 t366 t367 w0 _ ?side1 ?side2 A3.out).mono ?_);(case side1=>exact aG HI0.out);(case side2=>exact aT HI0.out);rintro e w46 ⟨rfl,hi,hb,hk⟩;refine ⟨_,rfl,?_⟩;replace HO364:=aM (Kd.aU (Kd.fP (az.apart (show az w0 _ g s0_0 t365 from aG HI0.out) (bR HO364) (by decide)) hk (fun _ h=>h.2)) (fun _ h=>h.1));replace HK:=aM (aA.trans aC hk (.inl rfl));replace HB:=aM hb;replace HI0:=aM hi;(try clear hi)));go_ret;exact ⟨_,bE,bR HO364,aG HI0.out,aT HI0.out,aC⟩
def mP.f (l0:List Int):Option (List Int × Int):=some (l0,0)
theorem mP.calls (A0:Option Addr) (c0:Nat) (l0:List Int) (r1:List Int) (r2:Int) (w0 w:World) (hB:Below w0.heap.size w0 w) (hr0:Kd.C (Kd.int .u8) w0 A0 l0.length l0) (hc0:l0.length ≤ c0) (h:mP.f l0 = some (r1,r2)) :
  Calls Tryz.prog 14 #[.slice A0 l0.length c0] w fun e w'=>∃ g_:Nat,e = .returned (.pointer (some ⟨g_,0,none⟩)) ∧ az w0 w' g_ r1 r2 ∧ Below w0.heap.size w0 w' ∧ Below w.heap.size w w':=by
 have hu60:=Tryz.underlying60;have HR0:=aM hr0;have HC0:=aM hc0;clear hr0 hc0;have HBW:=aM (Below.refl w.heap.size w);have HW0:=aM hB.size;have HB:=aM hB;clear hB;have H:(some (l0,0)) = some (r1,r2):=h;clear h;simp only [Option.some.injEq,Prod.mk.injEq] at H;obtain ⟨rfl,rfl⟩:=H;go_enter Tryz.func14,Tryz.ntmps14;go_wp2_with (first | ((with_reducible refine bF (N:=5) rfl ?_);refine dW ?hg (N:=5) ?hd (cs:=#[.slice A0 l0.length c0,.int .i64 0]) (t:=60) ?hr ?_;(case hd=>rfl);(case hg=>rfl);(case hr=>exact aW);intro gb386 hg w2 hbox hb;replace HB:=aM (au bB hb);have BK386:=aM hbox;have GW386:=aM ((by rw [hg];exact (aJ (by repeat (first | (with_reducible first | exact HBW.out | apply ku | apply lD | apply iP) | exact HBW.out))):w.heap.size ≤ gb386));have GE386:=aM ((Nat.le_trans HW0.out (by rw [hg];exact (aJ (by repeat (first | (with_reducible first | exact HBW.out | apply ku | apply lD | apply iP) | exact HBW.out))):w.heap.size ≤ gb386):w0.heap.size ≤ gb386));replace HBW:=aM (au HBW.out hb);clear hb hbox hg));go_ret;exact ⟨_,rfl,(show az w0 _ gb386 l0 0 from ⟨_,_,bL BK386,GE386.out,HR0.out⟩),bG GE386,by repeat (first | (with_reducible first | exact HBW.out | apply ku | apply lD | apply iP | refine lV ?_ GW386.out) | exact HBW.out)⟩
def mG.f (k:Nat) (l0:List Int):Option (List Int):=(mP.f l0).bind fun bt387=>((qy.f k bt387.1 bt387.2).bind fun bt390=>(some bt390.1))
theorem mG.calls (k:Nat) (A0:Option Addr) (c0:Nat) (l0:List Int) (r:List Int) (w:World) (hr0:Kd.C (Kd.int .u8) w A0 l0.length l0) (hc0:l0.length ≤ c0) (h:mG.f k l0 = some r) :
  Calls Tryz.prog 5 #[.slice A0 l0.length c0] w fun e w'=>∃ v0_:Value,e = .returned (v0_) ∧ Kd.R (Kd.int .u8) 5 w' w.heap.size (fun _=>True) v0_ r ∧ Below w.heap.size w w':=by
 have HR0:=aM hr0;have HC0:=aM hc0;clear hr0 hc0;have HB:=aM (Below.refl w.heap.size w);have H:((mP.f l0).bind fun bt387=>((qy.f k bt387.1 bt387.2).bind fun bt390=>(some bt390.1))) = some r:=h;clear h;replace H:=oB H;obtain ⟨⟨t387,t388⟩,A2,H⟩:=H;try dsimp only at H
 replace H:=oB H;obtain ⟨⟨t390,t393⟩,A3,H⟩:=H;replace H:(some t390) = some r:=H;obtain rfl:=Option.some.inj H;go_enter Tryz.func5,Tryz.ntmps5;go_wp2_with (first | ((with_reducible refine gC 14 rfl ?_);refine ah (some 4) Tryz.func14 #[.slice A0 l0.length c0] ?_;(with_reducible refine (mP.calls _ _ l0 t387 t388 w _ ?side1 ?side2 ?side3 A2.out).mono ?_);(case side1=>exact mD);(case side2=>exact HR0.out);(case side3=>exact HC0.out);rintro e w4 ⟨g389,rfl,hi,hb,hb2⟩;refine ⟨_,rfl,?_⟩;replace HB:=aM hb;have HI389:=aM hi;(try clear hi)) | ((with_reducible refine gC 13 rfl ?_);refine ah (some 5) Tryz.func13 #[.pointer (some ⟨g389,0,none⟩)] ?_;(with_reducible refine (qy.calls k g389 t387 t388 t390 t393 w _ ?side1 ?side2 A3.out).mono ?_);(case side1=>exact aG HI389.out);(case side2=>exact aT HI389.out);rintro e w5 ⟨v391,rfl,ho0,hi,hb,hk⟩;refine ⟨_,rfl,?_⟩;have HO392:=aM (Kd.aQ ho0 (aJ (aT HI389.out)));replace HB:=aM hb;replace HI389:=aM hi;(try clear ho0)));go_ret;exact ⟨_,bE,bR HO392,aT HI389.out⟩
def tZ.f (a0:Int):Option (Bool):=some (a0 == 59)
theorem tZ.calls (a0:Int) (r:Bool) (w:World) (h:tZ.f a0 = some r) :
  Calls Tryz.prog 37 #[.int .i32 a0] w fun e w'=>e = .returned (.bool r) ∧ dH w w':=by
 have H:(some (a0 == 59)) = some r:=h;clear h;obtain rfl:=Option.some.inj H;go_enter Tryz.func37,Tryz.ntmps37;go_wp2;go_ret;exact ⟨bS,bf⟩
open Go.Shelf in
def strings_FieldsFunc.F5:Go.Shelf.Ren:=⟨fun | 229=>36 | n=>n,fun | 9=>9 | 40=>70 | 31=>49 | 152=>91 | 3=>3 | 0=>0 | 4=>4 | 21=>21 | 154=>93 | n=>n,fun | n=>n⟩
open Go.Shelf in
theorem strings_FieldsFunc.Du:Go.Proofs.Lays.n229 Tryz.prog strings_FieldsFunc.F5:={
  mixed:=by kernel_rfl
  f229:=Tryz.func36.trans (congrArg some (by kernel_rfl))
  t0:=Tryz.underlying0
  a0:=Tryz.isAgg0
  z0:=Tryz.sizeOf0
  v0:=Tryz.zeroValue0
  t3:=Tryz.underlying3
  a3:=Tryz.isAgg3
  z3:=Tryz.sizeOf3
  v3:=Tryz.zeroValue3
  t4:=Tryz.underlying4
  a4:=Tryz.isAgg4
  z4:=Tryz.sizeOf4
  v4:=Tryz.zeroValue4
  t9:=Tryz.underlying9
  a9:=Tryz.isAgg9
  z9:=Tryz.sizeOf9
  v9:=Tryz.zeroValue9
  t21:=Tryz.underlying21
  a21:=Tryz.isAgg21
  z21:=Tryz.sizeOf21
  v21:=Tryz.zeroValue21
  t31:=Tryz.underlying49
  a31:=Tryz.isAgg49
  z31:=Tryz.sizeOf49
  v31:=Tryz.zeroValue49
  t40:=Tryz.underlying70
  a40:=Tryz.isAgg70
  z40:=Tryz.sizeOf70
  v40:=Tryz.zeroValue70
  t152:=Tryz.underlying91
  a152:=Tryz.isAgg91
  z152:=Tryz.sizeOf91
  v152:=Tryz.zeroValue91
  t154:=Tryz.underlying93
  a154:=Tryz.isAgg93
  z154:=Tryz.sizeOf93
  v154:=Tryz.zeroValue93 }
open Go.Shelf in
open Go.RowKit Go.Lib in
theorem strings_FieldsFunc.CY (g:Nat) (lb:Array Value) (eg:∀ args w,(callFunc g args).run Tryz.prog w = .ok (.enter g args) w) (p:Nat → Bool) (s:ByteArray) (w:World) (hs:s.size ≤ 4294967296) (hp:PredAtRunes Tryz.prog g lb p w) :
    Calls Tryz.prog 36 #[.string s,.func (.func g) #[] lb] w fun e w'=>∃ A,e = .returned (.slice (some ⟨A,0,none⟩) (Lib.goFieldsP p s).length (Lib.goFieldsP p s).length) ∧ w.heap.size ≤ A ∧
      w'.ownsRow w.heap.size 9 1 (.slice (some ⟨A,0,none⟩) (Lib.goFieldsP p s).length (Lib.goFieldsP p s).length) (Lib.goFieldsP p s).length ((Lib.goFieldsP p s).map Value.string) ∧ Below w.heap.size w w':=Any.strings_FieldsFunc_runes strings_FieldsFunc.Du g lb eg p s w hs hp (by kernel_rfl) (by kernel_rfl)
theorem strings_FieldsFunc.AL {W:World} {base:Nat} {ok:Nat → Prop}:∀ xs:List ByteArray,ax (Kd.string.M W base ok) Kd.string.sz xs (xs.map Value.string)
  | []=>ax.none _ _
  | x :: r=>ax.one (show Kd.M Kd.string W base ok x [.string x] from rfl) (strings_FieldsFunc.AL r)
def strings_FieldsFunc.f (a0:ByteArray):Option (List ByteArray):=if a0.size ≤ 4294967296 then some (Lib.goFieldsP (fun n=>n == 59) a0) else none
theorem strings_FieldsFunc.calls (a0:ByteArray) (r:List ByteArray) (w:World) (h:strings_FieldsFunc.f a0 = some r) :
    Calls Tryz.prog 36 #[.string a0,.func (.func 37) #[] #[]] w fun e w'=>∃ v0_:Value,e = .returned (v0_) ∧ Kd.R Kd.string 9 w' w.heap.size (fun _=>True) v0_ r ∧ Below w.heap.size w w':=by
  unfold strings_FieldsFunc.f at h;by_cases h0:a0.size ≤ 4294967296
  · rw [if_pos h0] at h;cases h;refine (strings_FieldsFunc.CY 37 #[] (fun args w=>wJ Tryz.func37 (by kernel_rfl) rfl args w) (fun n=>n == 59) a0 w h0 ?_).mono ?_
    · intro W x _ _;have e:((x:Int) == 59) = (x == 59):=by rw [Bool.eq_iff_iff,beq_iff_eq,beq_iff_eq];omega
      refine (tZ.calls (x:Int) (x == 59) W (by rw [tZ.f,e])).mono ?_;rintro e w' ⟨rfl,n,rfl⟩;exact ⟨rfl,n,rfl⟩
    rintro e w' ⟨A,rfl,_,ho,hb⟩;exact ⟨_,rfl,⟨fun _ _=>trivial,_,World.wz ho,strings_FieldsFunc.AL _⟩,hb⟩
  rw [if_neg h0] at h;cases h
open Go.Shelf in
def lL.Cc:Go.Shelf.Ren:=⟨fun | 160=>38 | 232=>56 | 231=>55 | 227=>57 | 234=>59 | 233=>58 | 236=>61 | 235=>60 | 228=>83 | 271=>86 | 151=>85 | 197=>84 | 120=>100 | 152=>99 | 260=>98 | 137=>107 | 119=>108 | 224=>109 | 225=>110 | 217=>111 | 266=>114 | n=>n,fun | 9=>9 | 4=>4 | 3=>3 | 5=>5 | 117=>97 | 116=>96 | 0=>0 | 124=>100 | 21=>21 | 105=>118 | 46=>134 | 119=>133 | 139=>137 | 138=>136 | n=>n,fun | 3=>1 | 4=>2 | n=>n⟩
open Go.Shelf in
theorem lL.F6:Go.Proofs.Lays.n160 Tryz.prog lL.Cc:={
  mixed:=by kernel_rfl
  f119:=Tryz.func108.trans (congrArg some (by kernel_rfl))
  f120:=Tryz.func100.trans (congrArg some (by kernel_rfl))
  f137:=Tryz.func107.trans (congrArg some (by kernel_rfl))
  f151:=Tryz.func85.trans (congrArg some (by kernel_rfl))
  f152:=Tryz.func99.trans (congrArg some (by kernel_rfl))
  f160:=Tryz.func38.trans (congrArg some (by kernel_rfl))
  f197:=Tryz.func84.trans (congrArg some (by kernel_rfl))
  f217:=Tryz.func111.trans (congrArg some (by kernel_rfl))
  f224:=Tryz.func109.trans (congrArg some (by kernel_rfl))
  f225:=Tryz.func110.trans (congrArg some (by kernel_rfl))
  f227:=Tryz.func57.trans (congrArg some (by kernel_rfl))
  f228:=Tryz.func83.trans (congrArg some (by kernel_rfl))
  f231:=Tryz.func55.trans (congrArg some (by kernel_rfl))
  f232:=Tryz.func56.trans (congrArg some (by kernel_rfl))
  f233:=Tryz.func58.trans (congrArg some (by kernel_rfl))
  f234:=Tryz.func59.trans (congrArg some (by kernel_rfl))
  f235:=Tryz.func60.trans (congrArg some (by kernel_rfl))
  f236:=Tryz.func61.trans (congrArg some (by kernel_rfl))
  f260:=Tryz.func98.trans (congrArg some (by kernel_rfl))
  f266:=Tryz.func114.trans (congrArg some (by kernel_rfl))
  f271:=Tryz.func86.trans (congrArg some (by kernel_rfl))
  t0:=Tryz.underlying0
  a0:=Tryz.isAgg0
  z0:=Tryz.sizeOf0
  v0:=Tryz.zeroValue0
  t3:=Tryz.underlying3
  a3:=Tryz.isAgg3
  z3:=Tryz.sizeOf3
  v3:=Tryz.zeroValue3
  t4:=Tryz.underlying4
  a4:=Tryz.isAgg4
  z4:=Tryz.sizeOf4
  v4:=Tryz.zeroValue4
  t5:=Tryz.underlying5
  a5:=Tryz.isAgg5
  z5:=Tryz.sizeOf5
  v5:=Tryz.zeroValue5
  t9:=Tryz.underlying9
  a9:=Tryz.isAgg9
  z9:=Tryz.sizeOf9
  v9:=Tryz.zeroValue9
  t21:=Tryz.underlying21
  a21:=Tryz.isAgg21
  z21:=Tryz.sizeOf21
  v21:=Tryz.zeroValue21
  t46:=Tryz.underlying134
  a46:=Tryz.isAgg134
  z46:=Tryz.sizeOf134
  v46:=Tryz.zeroValue134
  t105:=Tryz.underlying118
  a105:=Tryz.isAgg118
  z105:=Tryz.sizeOf118
  v105:=Tryz.zeroValue118
  t116:=Tryz.underlying96
  a116:=Tryz.isAgg96
  z116:=Tryz.sizeOf96
  t117:=Tryz.underlying97
  a117:=Tryz.isAgg97
  z117:=Tryz.sizeOf97
  v117:=Tryz.zeroValue97
  t119:=Tryz.underlying133
  a119:=Tryz.isAgg133
  z119:=Tryz.sizeOf133
  t124:=Tryz.underlying100
  a124:=Tryz.isAgg100
  z124:=Tryz.sizeOf100
  v124:=Tryz.zeroValue100
  t138:=Tryz.underlying136
  a138:=Tryz.isAgg136
  z138:=Tryz.sizeOf136
  v138:=Tryz.zeroValue136
  t139:=Tryz.underlying137
  a139:=Tryz.isAgg137
  z139:=Tryz.sizeOf137
  v139:=Tryz.zeroValue137
  g3:=by kernel_rfl
  g4:=by kernel_rfl }
def lL.f (a0:ByteArray) (a1:ByteArray):Option ByteArray:=if a0.size ≤ 9223372036854775807 ∧ a1.size < 4294967281 ∧ a1.data.toList.all (fun b=>decide (b.toNat < 128)) = true then some ⟨(Lib.trimS a0.data.toList a1.data.toList).toArray⟩ else none
theorem lL.calls (a0:ByteArray) (a1:ByteArray) (r:ByteArray) (w:World) (h:lL.f a0 a1 = some r) :
    Calls Tryz.prog 38 #[.string a0,.string a1] w fun e w'=>e = .returned (.string r) ∧ Below w.heap.size w w':=by
  unfold lL.f at h;by_cases h1:a0.size ≤ 9223372036854775807 ∧ a1.size < 4294967281 ∧ a1.data.toList.all (fun b=>decide (b.toNat < 128)) = true
  · rw [if_pos h1] at h;cases h;exact Any.strings_Trim_laid lL.F6 (by kernel_rfl) a0 a1 w h1.1 h1.2.1 (ascii_of_all h1.2.2)
  rw [if_neg h1] at h;cases h
def eF.l0:Nat → List ByteArray → List ByteArray → Int → Int → Option (List ByteArray)
 | 0,_,_,_,_=>none
 | k + 1,x3,x8,x9,x10=>if x10 < x9 then (if 0 ≤ x10 then (if x10 < (x8.length:Int) then ((lL.f (bU ByteArray.empty x8 x10) (⟨#[32,9]⟩ : ByteArray)).bind fun t401=>(if x3.length < 8796093022208 then (eF.l0 k (x3 ++ [t401]) x8 x9 (wrap64 (x10 + 1))) else (none))) else (none)) else (none)) else (some x3)
def eF.f (k:Nat) (a0:ByteArray):Option (List ByteArray):=(strings_FieldsFunc.f a0).bind fun t397=>(eF.l0 k (([]:List ByteArray)) t397 (t397.length:Int) 0)
theorem eF.fU:∀ k,(∀ y0 y1 y2 y3,aN (eF.l0 k y0 y1 y2 y3) (eF.l0 (k + 1) y0 y1 y2 y3))
 | 0=>fun _ _ _ _ r h=>by simp [eF.l0] at h
 | k + 1=>by
  have ih0:=eF.fU k
  ·intro y0 y1 y2 y3
   unfold eF.l0
   with_reducible repeat' first | exact ih0 _ _ _ _ | exact aN.refl _ | exact aN.none _ | refine aN.ite ?_ ?_ | refine aN.bind ?_ (fun _=>?_)
theorem eF.mono:∀ a0 k,aN (eF.f k a0) (eF.f (k + 1) a0):=by
 intro a0 k
 have ih0:=eF.fU k
 unfold eF.f
 with_reducible repeat' first | exact ih0 _ _ _ _ | exact aN.refl _ | exact aN.none _ | refine aN.ite ?_ ?_ | refine aN.bind ?_ (fun _=>?_)
theorem eF.calls (k:Nat) (a0:ByteArray) (r:List ByteArray) (w:World) (h:eF.f k a0 = some r) :
  Calls Tryz.prog 22 #[.string a0] w fun e w'=>∃ v0_:Value,e = .returned (v0_) ∧ Kd.R Kd.string 9 w' w.heap.size (fun _=>True) v0_ r ∧ Below w.heap.size w w':=by
 have HB:=aM (Below.refl w.heap.size w);have H:((strings_FieldsFunc.f a0).bind fun t397=>(eF.l0 k (([]:List ByteArray)) t397 (t397.length:Int) 0)) = some r:=h;clear h;obtain ⟨y394,hy394⟩ : ∃ y_:List ByteArray,y_ = (([]:List ByteArray)):=⟨_,rfl⟩;replace H:((strings_FieldsFunc.f a0).bind fun t397=>(eF.l0 k y394 t397 (t397.length:Int) 0)) = some r:=bg hy394;have Ny394:=aM hy394;clear hy394;replace H:=oB H;obtain ⟨t397,A2,H⟩:=H;try dsimp only at H
 have H':=aM H;clear H;go_enter Tryz.func22,Tryz.ntmps22;go_wp2_with (first | ((with_reducible refine bF (N:=6) rfl ?_);refine Kd.fG Kd.string _ 9 ?hg (N:=6) ?hd (xs:=([]:List ByteArray)) (inner:=[]) (ok:=fun _=>True) (okp:=fun _=>True) ?hr ?hp (fun _ hk=>hk) trivial (Below.refl _ _) (Nat.le_refl _) (by simp) ?_;(case hd=>rfl);(case hg=>rfl);(case hr=>exact aW);(case hp=>exact (ax.none _ _));intro v395 w3 ho4 hb hg_ hnew_;clear hg_ hnew_;(first | rw [← Ny394.out] at ho4 | (simp only [Int.reduceToNat] at ho4;rw [← Ny394.out] at ho4));have HO396:=aM (Kd.aQ ho4 (aJ bB));replace HB:=aM (au bB hb);clear hb ho4) | ((with_reducible refine gC 36 rfl ?_);refine ah (some 8) Tryz.func36 #[.string a0,.func (.func 37) #[] #[]] ?_;(with_reducible refine (strings_FieldsFunc.calls a0 t397 _ A2.out).mono ?_);rintro e w5 ⟨v398,rfl,ho0,hb⟩;refine ⟨_,rfl,?_⟩;have HO399:=aM (Kd.aQ (Kd.dn ho0 (Kd.aZ (bR HO396))) (aJ bB));replace HO396:=aM (Kd.dD (bR HO396) (Kd.bT ho0) hb);replace HB:=aM (au bB hb);(try clear ho0);obtain ⟨Ao6,co6,eo6⟩:=Kd.bn HO399.out;subst eo6));go_loopg [3,10] k (fun kq v3 v10 w'=>∃ (x3_1:List ByteArray) (x10_1:Int),v10 = .int .i64 x10_1 ∧ ae (eF.l0 kq x3_1 t397 (t397.length:Int) x10_1 = some r) ∧ ae (kq ≤ k) ∧ ae (Kd.R Kd.string 9 w' w.heap.size (fun k_=>some k_ ≠ ((.slice Ao6 t397.length co6):Value).ownBlock) v3 x3_1) ∧ ae (Kd.R Kd.string 9 w' w.heap.size (fun k_=>some k_ ≠ (v3:Value).ownBlock) (.slice Ao6 t397.length co6) t397) ∧ ae (Below w.heap.size w w'))
 case atStart=>exact ⟨(y394),(0),bS,H',⟨Nat.le_refl _⟩,⟨jy HO396.out⟩,⟨jy HO399.out⟩,⟨bB⟩⟩
 case round =>
  clear H';obtain ⟨x3_1,x10_1,rfl,HA,HK1,HO_3,HO_8,HB⟩:=hrel
  cases gk with
  | zero=>exact absurd HA.out (by simp [eF.l0])
  | succ k1 =>
   have H:=HA.out;clear HA;simp only [eF.l0] at H;by_cases c7:x10_1 < (t397.length:Int)
   ·rw [if_pos c7] at H;have c7b0:=decide_eq_true c7;clear c7;by_cases c8:0 ≤ x10_1
    ·rw [if_pos c8] at H;have c8b0:=decide_eq_true c8;clear c8;by_cases c9:x10_1 < (t397.length:Int)
     ·rw [if_pos c9] at H;have c9b0:=decide_eq_true c9;clear c9;replace H:=oB H;obtain ⟨t401,A10,H⟩:=H;try dsimp only at H
      by_cases c11:x3_1.length < 8796093022208
      ·rw [if_pos c11] at H;have LMc11:=aM c11;clear c11;obtain ⟨y402,hy402⟩ : ∃ y_:List ByteArray,y_ = (x3_1 ++ [t401]):=⟨_,rfl⟩;replace H:(eF.l0 k1 y402 t397 (t397.length:Int) (wrap64 (x10_1 + 1))) = some r:=bg hy402;have Ny402:=aM hy402;clear hy402;have H':=aM H;clear H;have p400:0 ≤ (x10_1:Int):=pI;have q400:x10_1 < (t397.length:Int):=pI;obtain ⟨ad400,e400,hx400_0⟩:=Kd.jc (Kd.aV HO_8.out).2.2 x10_1 p400 q400;cases e400;replace p400:=eq_true p400;replace q400:=eq_true q400;go_wp2_with (first | ((with_reducible refine gC 38 rfl ?_);refine ah (some 16) Tryz.func38 #[.string (bU ByteArray.empty t397 x10_1),.string (⟨#[32,9]⟩ : ByteArray)] ?_;(with_reducible refine (lL.calls (bU ByteArray.empty t397 x10_1) (⟨#[32,9]⟩ : ByteArray) t401 _ A10.out).mono ?_);rintro e w12 ⟨rfl,hb⟩;refine ⟨_,rfl,?_⟩;replace HO_3:=aM (Kd.aY (bR HO_3) hb);replace HO_8:=aM (Kd.aY (bR HO_8) hb);replace HB:=aM (au bB hb);(try clear hi)) | ((with_reducible refine gq (b:=.append) (xs:=#[.tmp 14,.tmp 17]) rfl ?_);at_builtin;refine Kd.kG Kd.string (w0:=w) w.heap.size rfl (.tmp 14) (.tmp 17) 49 9 (.string ⟨#[]⟩) 16 rfl Tryz.underlying49 info9 rfl (by decide) (by omega) u3 x3_1 t401 [.string t401] (fun k_=>some k_ ≠ (.slice (some ad400) t397.length co6:Value).ownBlock) (fun _=>False) rfl rfl ?aP (fun _ hk=>hk.elim) ?aF ?aO ?aB ?aS ?aL ?_;(case aP=>exact rfl);(case aB=>exact bB);(case aF=>exact (fun k_ hk=>Kd.fresh' (Kd.aZ (bR HO_8)) k_ hk));(case aO=>exact (bR HO_3));(case aS=>exact (aJ bB));(case aL=>have:=LMc11.out;omega);intro v403 w13 ho hb hg hat;rw [← Ny402.out] at ho;have n0_:=aM (Kd.dR (ok:=(fun _=>True)) (oU HO_8.out) hg hat);have n1_:=aM hb;have n2_:=aM ho;clear HO_8;clear HB;clear HO_3;have HO_8:=n0_;have HB:=n1_;have HO404:=n2_;clear n0_ n1_ n2_;clear ho hb hg hat));go_roundg k1
       case measure=>have:=HK1.out;omega
       case rel=>exact ⟨(y402),(wrap64 (x10_1 + 1)),bS,H',⟨by have:=HK1.out;omega⟩,⟨bR HO404⟩,⟨jy HO_8.out⟩,⟨bB⟩⟩
      rw [if_neg c11] at H;exact aB H
     rw [if_neg c9] at H;exact aB H
    rw [if_neg c8] at H;exact aB H
   rw [if_neg c7] at H;have c7b0:=decide_eq_false c7;clear c7;obtain rfl:=Option.some.inj H;go_wp2;go_ret;exact ⟨_,bE,gB HO_3.out,bB⟩
def di.l0:Nat → List Int → Int → Int → Option (ByteArray)
 | 0,_,_,_=>none
 | k + 1,x3,x9,x10=>if x10 < x9 then (if 0 ≤ x10 then (if x10 < (x3.length:Int) then (if (rd x3 x10) ≥ 65 then (if (rd x3 x10) ≤ 90 then (di.l0 k (x3.set (x10:Int).toNat (((rd x3 x10) + 32) % 256)) x9 (wrap64 (x10 + 1))) else (di.l0 k x3 x9 (wrap64 (x10 + 1)))) else (di.l0 k x3 x9 (wrap64 (x10 + 1)))) else (none)) else (none)) else (some (strOfNums x3))
def di.f (k:Nat) (a0:ByteArray):Option (ByteArray):=if a0.size ≤ 281474976710656 then ((some (bytesOf a0:List Int)).bind fun y405=>(di.l0 k y405 (y405.length:Int) 0)) else (none)
theorem di.fU:∀ k,(∀ y0 y1 y2,aN (di.l0 k y0 y1 y2) (di.l0 (k + 1) y0 y1 y2))
 | 0=>fun _ _ _ r h=>by simp [di.l0] at h
 | k + 1=>by
  have ih0:=di.fU k
  ·intro y0 y1 y2
   unfold di.l0
   with_reducible repeat' first | exact ih0 _ _ _ | exact aN.refl _ | exact aN.none _ | refine aN.ite ?_ ?_ | refine aN.bind ?_ (fun _=>?_)
theorem di.mono:∀ a0 k,aN (di.f k a0) (di.f (k + 1) a0):=by
 intro a0 k
 have ih0:=di.fU k
 unfold di.f
 with_reducible repeat' first | exact ih0 _ _ _ | exact aN.refl _ | exact aN.none _ | refine aN.ite ?_ ?_ | refine aN.bind ?_ (fun _=>?_)
theorem di.calls (k:Nat) (a0:ByteArray) (r:ByteArray) (w:World) (h:di.f k a0 = some r) :
  Calls Tryz.prog 23 #[.string a0] w fun e w'=>e = .returned (.string r) ∧ Below w.heap.size w w':=by
 have HB:=aM (Below.refl w.heap.size w);have H:(if a0.size ≤ 281474976710656 then ((some (bytesOf a0:List Int)).bind fun y405=>(di.l0 k y405 (y405.length:Int) 0)) else (none)) = some r:=h;clear h;by_cases c2:a0.size ≤ 281474976710656
 ·rw [if_pos c2] at H;have c2b0:=eq_true c2;have c2b1:=decide_eq_true c2;clear c2;obtain ⟨y405,hy405⟩ : ∃ y_:List Int,y_ = (bytesOf a0):=⟨_,rfl⟩;replace H:(di.l0 k y405 (y405.length:Int) 0) = some r:=bg hy405;have Ny405:=aM hy405;clear hy405;have H':=aM H;clear H;go_enter Tryz.func23,Tryz.ntmps23;go_wp2_with (first | ((with_reducible refine bF (N:=7) rfl ?_);refine Kd.oL _ 5 rfl (N:=7) rfl 9 22 _ rfl a0 rfl Tryz.underlying9 Tryz.underlying22 Tryz.underlying5 (ok:=fun _=>True) trivial (pI) (Below.refl _ _) (Nat.le_refl _) ?_;intro v406 w3 ho4 hb hg_ hnew_;clear hg_ hnew_;(first | rw [← Ny405.out] at ho4 | (simp only [Int.reduceToNat] at ho4;rw [← Ny405.out] at ho4));have HO407:=aM (Kd.aQ ho4 (aJ bB));replace HB:=aM (au bB hb);clear hb ho4;obtain ⟨Ao5,co5,eo5⟩:=Kd.bn HO407.out;subst eo5));go_loopg [10] k (fun kq v10 w'=>∃ (x3_1:List Int) (x10_1:Int),v10 = .int .i64 x10_1 ∧ ae (di.l0 kq x3_1 (y405.length:Int) x10_1 = some r) ∧ ae (kq ≤ k) ∧ ae (Kd.R (Kd.int .u8) 5 w' w.heap.size (fun _=>True) (.slice Ao5 y405.length co5) x3_1) ∧ ae (Below w.heap.size w w'))
  case atStart=>exact ⟨(y405),(0),bS,H',⟨Nat.le_refl _⟩,⟨bR HO407⟩,⟨bB⟩⟩
  case round =>
   clear H';try clear c2
   try clear c2b0
   try clear c2b1
   obtain ⟨x3_1,x10_1,rfl,HA,HK1,HO_3,HB⟩:=hrel;have hl3_1:=(Kd.aV HO_3.out).1;rw [hl3_1] at HO_3;(try simp only [hl3_1])
   cases gk with
   | zero=>exact absurd HA.out (by simp [di.l0])
   | succ k1 =>
    have H:=HA.out;clear HA;simp only [di.l0] at H;by_cases c6:x10_1 < (y405.length:Int)
    ·rw [if_pos c6] at H;have c6b0:=decide_eq_true c6;(try simp only [hl3_1] at c6b0);clear c6;by_cases c7:0 ≤ x10_1
     ·rw [if_pos c7] at H;have c7b0:=decide_eq_true c7;(try simp only [hl3_1] at c7b0);clear c7;by_cases c8:x10_1 < (x3_1.length:Int)
      ·rw [if_pos c8] at H;have c8b0:=decide_eq_true c8;(try simp only [hl3_1] at c8b0);clear c8;by_cases c9:(rd x3_1 x10_1) ≥ 65
       ·rw [if_pos c9] at H;have c9b0:decide (65 ≤ (rd x3_1 x10_1)) = true:=decide_eq_true c9;(try simp only [hl3_1] at c9b0);clear c9;by_cases c10:(rd x3_1 x10_1) ≤ 90
        ·rw [if_pos c10] at H;have c10b0:=decide_eq_true c10;(try simp only [hl3_1] at c10b0);clear c10;obtain ⟨y409,hy409⟩ : ∃ y_:List Int,y_ = (x3_1.set (x10_1:Int).toNat (((rd x3_1 x10_1) + 32) % 256)):=⟨_,rfl⟩;replace H:(di.l0 k1 y409 (y405.length:Int) (wrap64 (x10_1 + 1))) = some r:=bg hy409;have Ny409:=aM hy409;clear hy409;have H':=aM H;clear H;have p408:0 ≤ (x10_1:Int):=pI;have q408:x10_1 < (x3_1.length:Int):=pI;obtain ⟨ad408,e408,hx408_0⟩:=Kd.eP (Kd.aV HO_3.out).2.2 x10_1 p408 q408;cases e408;replace p408:=eq_true p408;replace q408:=eq_true q408;have p11:0 ≤ (x10_1:Int):=pI;have q11:(x10_1:Int) < ((x3_1.length:Int):Int):=pI;obtain ⟨go11,co11,eo11,gb11,gl11,cl11,HG11⟩:=Kd.nM HO_3.out (by omega);(first | cases eo11 | (injection eo11 with ea_ en_ ec_;(first | subst ea_ | (injection ea_ with ea_;subst ea_));subst ec_;clear en_));have GB11:=aM gb11;have GG11:=aM HG11;clear gb11 gl11 HG11;(first | simp only [add_plain] at hx408_0 | skip);obtain ⟨hx11_0,hf11_0⟩:=Kd.jZ 0 HO_3.out (x10_1:Int) p11 q11;replace p11:=eq_true p11;replace q11:=eq_true q11;have HP12:=Kd.oV HO_3.out (x10_1:Int) (((rd x3_1 x10_1) + 32) % 256);go_wp2_with (first | ((with_reducible refine jF (t:=5) (p:=25) rfl ?_);refine jI (t:=5) (p:=25) (v:=?vo_w13) (w1:=(wr.setCell ⟨go11,(x10_1:Int).toNat,none⟩ (.int .u8 (((rd x3_1 x10_1) + 32) % 256)))) ?hg ?ho ?hn ?hr ?_;(case ho=>rfl);(case hg=>rfl);(case hn=>rfl);(case hr=>exact aW);intro w13 hw;have hg:wr.grownBy w13 (some go11):=(by rw [hw];exact HP12.2);have hp_:Kd.R (Kd.int .u8) 5 w13 w.heap.size (fun _=>True) (.slice (some ⟨go11,0,none⟩) x3_1.length co5) y409:=(by rw [hw,Ny409.out];exact HP12.1);clear HP12;replace HO_3:=aM hp_;replace HB:=aM ((oq GB11.out:Below w.heap.size w w13));clear hg hw hp_));(try simp only [← hl3_1]);go_roundg k1
         case measure=>have:=HK1.out;omega
         case rel=>exact ⟨(y409),(wrap64 (x10_1 + 1)),bS,H',⟨by have:=HK1.out;omega⟩,⟨vF HO_3.out⟩,⟨bB⟩⟩
        rw [if_neg c10] at H;have c10b0:=decide_eq_false c10;(try simp only [hl3_1] at c10b0);clear c10;have H':=aM H;clear H;have p408:0 ≤ (x10_1:Int):=pI;have q408:x10_1 < (x3_1.length:Int):=pI;obtain ⟨ad408,e408,hx408_0⟩:=Kd.eP (Kd.aV HO_3.out).2.2 x10_1 p408 q408;cases e408;replace p408:=eq_true p408;replace q408:=eq_true q408;go_wp2;(try simp only [← hl3_1]);go_roundg k1
        case measure=>have:=HK1.out;omega
        case rel=>exact ⟨(x3_1),(wrap64 (x10_1 + 1)),bS,H',⟨by have:=HK1.out;omega⟩,⟨vF HO_3.out⟩,⟨bB⟩⟩
       rw [if_neg c9] at H;have c9b0:decide (65 ≤ (rd x3_1 x10_1)) = false:=decide_eq_false c9;(try simp only [hl3_1] at c9b0);clear c9;have H':=aM H;clear H;have p408:0 ≤ (x10_1:Int):=pI;have q408:x10_1 < (x3_1.length:Int):=pI;obtain ⟨ad408,e408,hx408_0⟩:=Kd.eP (Kd.aV HO_3.out).2.2 x10_1 p408 q408;cases e408;replace p408:=eq_true p408;replace q408:=eq_true q408;go_wp2;(try simp only [← hl3_1]);go_roundg k1
       case measure=>have:=HK1.out;omega
       case rel=>exact ⟨(x3_1),(wrap64 (x10_1 + 1)),bS,H',⟨by have:=HK1.out;omega⟩,⟨vF HO_3.out⟩,⟨bB⟩⟩
      rw [if_neg c8] at H;exact aB H
     rw [if_neg c7] at H;exact aB H
    rw [if_neg c6] at H;have c6b0:=decide_eq_false c6;(try simp only [hl3_1] at c6b0);clear c6;obtain rfl:=Option.some.inj H;have hcv14:=mQ (P:=Tryz.prog) Tryz.underlying22 Tryz.underlying5 Tryz.underlying9 (Kd.lu HO_3.out);(try have hcv14d:=fun nq_:Nat=>mQ (P:=Tryz.prog) Tryz.underlying22 Tryz.underlying5 Tryz.underlying9 (Kd.lu (Kd.dE HO_3.out nq_)));go_wp2;go_ret;exact ⟨bE,bB⟩
 rw [if_neg c2] at H;exact aB H
def stringslite_HasPrefix.f (a0:ByteArray) (a1:ByteArray):Option (Bool):=if (a0.size:Int) ≥ (a1.size:Int) then (if 0 ≤ (a1.size:Int) then (if (a1.size:Int) ≤ (a0.size:Int) then (some ((a0.extract 0 ((a1.size:Int):Int).toNat).toList == a1.toList)) else (none)) else (none)) else (some false)
theorem stringslite_HasPrefix.calls (a0:ByteArray) (a1:ByteArray) (r:Bool) (w:World) (h:stringslite_HasPrefix.f a0 a1 = some r) :
  Calls Tryz.prog 39 #[.string a0,.string a1] w fun e w'=>e = .returned (.bool r) ∧ dH w w':=by
 have H:(if (a0.size:Int) ≥ (a1.size:Int) then (if 0 ≤ (a1.size:Int) then (if (a1.size:Int) ≤ (a0.size:Int) then (some ((a0.extract 0 ((a1.size:Int):Int).toNat).toList == a1.toList)) else (none)) else (none)) else (some false)) = some r:=h;clear h;by_cases c3:(a0.size:Int) ≥ (a1.size:Int)
 ·rw [if_pos c3] at H;have c3b0:decide ((a1.size:Int) ≤ (a0.size:Int)) = true:=decide_eq_true c3;have c3b1:decide (a1.size ≤ a0.size) = true:=decide_eq_true (Int.ofNat_le.mp c3);clear c3;by_cases c4:0 ≤ (a1.size:Int)
  ·rw [if_pos c4] at H;have c4b0:=eq_true c4;have c4b1:=decide_eq_true c4;clear c4;by_cases c5:(a1.size:Int) ≤ (a0.size:Int)
   ·rw [if_pos c5] at H;have c5b0:=eq_true c5;have c5b1:=decide_eq_true c5;clear c5;obtain rfl:=Option.some.inj H;go_enter Tryz.func39,Tryz.ntmps39;go_wp2;go_ret;exact ⟨bS,bf⟩
   rw [if_neg c5] at H;exact aB H
  rw [if_neg c4] at H;exact aB H
 rw [if_neg c3] at H;have c3b0:decide ((a1.size:Int) ≤ (a0.size:Int)) = false:=decide_eq_false c3;have c3b1:decide (a1.size ≤ a0.size) = false:=decide_eq_false (fun h=>c3 (Int.ofNat_le.mpr h));clear c3;obtain rfl:=Option.some.inj H;go_enter Tryz.func39,Tryz.ntmps39;go_wp2;go_ret;exact ⟨bS,bf⟩
def strings_HasPrefix.f (a0:ByteArray) (a1:ByteArray):Option (Bool):=(stringslite_HasPrefix.f a0 a1).bind fun t410=>(some t410)
theorem strings_HasPrefix.calls (a0:ByteArray) (a1:ByteArray) (r:Bool) (w:World) (h:strings_HasPrefix.f a0 a1 = some r) :
  Calls Tryz.prog 24 #[.string a0,.string a1] w fun e w'=>e = .returned (.bool r) ∧ dH w w':=by
 have H:((stringslite_HasPrefix.f a0 a1).bind fun t410=>(some t410)) = some r:=h;clear h;replace H:=oB H;obtain ⟨t410,A3,H⟩:=H;replace H:(some t410) = some r:=H;obtain rfl:=Option.some.inj H;go_enter Tryz.func24,Tryz.ntmps24;go_wp2_with (first | ((with_reducible refine gC 39 rfl ?_);refine ah (some 7) Tryz.func39 #[.string a0,.string a1] ?_;(with_reducible refine (stringslite_HasPrefix.calls a0 a1 t410 _ A3.out).mono ?_);rintro e w' ⟨rfl,⟨nd,rfl⟩⟩;refine ⟨_,rfl,?_⟩));go_ret;exact ⟨bS,bf⟩
def eu.l0:Nat → ByteArray → List ByteArray → Int → Int → Option (ByteArray × Bool)
 | 0,_,_,_,_=>none
 | k + 1,x1,x9,x10,x11=>if x11 < x10 then (if 0 ≤ x11 then (if x11 < (x9.length:Int) then (if x11 > 0 then ((di.f k (bU ByteArray.empty x9 x11)).bind fun t415=>((strings_HasPrefix.f t415 x1).bind fun t416=>(if t416 = true then (if 0 ≤ (x1.size:Int) then (if (x1.size:Int) ≤ ((bU ByteArray.empty x9 x11).size:Int) then (some ((bU ByteArray.empty x9 x11).extract ((x1.size:Int):Int).toNat (bU ByteArray.empty x9 x11).size,true)) else (none)) else (none)) else (eu.l0 k x1 x9 x10 (wrap64 (x11 + 1)))))) else (eu.l0 k x1 x9 x10 (wrap64 (x11 + 1)))) else (none)) else (none)) else (some ((⟨#[]⟩ : ByteArray),false))
def eu.f (k:Nat) (a0:ByteArray) (a1:ByteArray):Option (ByteArray × Bool):=(eF.f k a0).bind fun t411=>(eu.l0 k a1 t411 (t411.length:Int) 0)
theorem eu.fU:∀ k,(∀ y0 y1 y2 y3,aN (eu.l0 k y0 y1 y2 y3) (eu.l0 (k + 1) y0 y1 y2 y3))
 | 0=>fun _ _ _ _ r h=>by simp [eu.l0] at h
 | k + 1=>by
  have ih0:=eu.fU k
  ·intro y0 y1 y2 y3
   unfold eu.l0
   with_reducible repeat' first | exact ih0 _ _ _ _ | exact eF.mono _ _ | exact di.mono _ _ | exact aN.refl _ | exact aN.none _ | refine aN.ite ?_ ?_ | refine aN.bind ?_ (fun _=>?_)
theorem eu.mono:∀ a0 a1 k,aN (eu.f k a0 a1) (eu.f (k + 1) a0 a1):=by
 intro a0 a1 k
 have ih0:=eu.fU k
 unfold eu.f
 with_reducible repeat' first | exact ih0 _ _ _ _ | exact eF.mono _ _ | exact di.mono _ _ | exact aN.refl _ | exact aN.none _ | refine aN.ite ?_ ?_ | refine aN.bind ?_ (fun _=>?_)
theorem eu.calls (k:Nat) (a0:ByteArray) (a1:ByteArray) (r1:ByteArray) (r2:Bool) (w:World) (h:eu.f k a0 a1 = some (r1,r2)) :
  Calls Tryz.prog 25 #[.string a0,.string a1] w fun e w'=>e = .returned (.tuple #[.string r1,.bool r2]) ∧ Below w.heap.size w w':=by
 have HB:=aM (Below.refl w.heap.size w);have H:((eF.f k a0).bind fun t411=>(eu.l0 k a1 t411 (t411.length:Int) 0)) = some (r1,r2):=h;clear h;replace H:=oB H;obtain ⟨t411,A3,H⟩:=H;try dsimp only at H
 have H':=aM H;clear H;go_enter Tryz.func25,Tryz.ntmps25;go_wp2_with (first | ((with_reducible refine gC 22 rfl ?_);refine ah (some 9) Tryz.func22 #[.string a0] ?_;(with_reducible refine (eF.calls k a0 t411 _ A3.out).mono ?_);rintro e w4 ⟨v412,rfl,ho0,hb⟩;refine ⟨_,rfl,?_⟩;have HO413:=aM (Kd.aQ ho0 (aJ bB));replace HB:=aM (au bB hb);(try clear ho0);obtain ⟨Ao5,co5,eo5⟩:=Kd.bn HO413.out;subst eo5));go_loopg [11] k (fun kq v11 w'=>∃ (x11_1:Int),v11 = .int .i64 x11_1 ∧ ae (eu.l0 kq a1 t411 (t411.length:Int) x11_1 = some (r1,r2)) ∧ ae (kq ≤ k) ∧ ae (Kd.R Kd.string 9 w' w.heap.size (fun _=>True) (.slice Ao5 t411.length co5) t411) ∧ ae (Below w.heap.size w w'))
 case atStart=>exact ⟨(0),bS,H',⟨Nat.le_refl _⟩,⟨bR HO413⟩,⟨bB⟩⟩
 case round =>
  clear H';obtain ⟨x11_1,rfl,HA,HK1,HO_9,HB⟩:=hrel
  cases gk with
  | zero=>exact absurd HA.out (by simp [eu.l0])
  | succ k1 =>
   have H:=HA.out;clear HA;simp only [eu.l0] at H;by_cases c6:x11_1 < (t411.length:Int)
   ·rw [if_pos c6] at H;have c6b0:=decide_eq_true c6;clear c6;by_cases c7:0 ≤ x11_1
    ·rw [if_pos c7] at H;have c7b0:=decide_eq_true c7;clear c7;by_cases c8:x11_1 < (t411.length:Int)
     ·rw [if_pos c8] at H;have c8b0:=decide_eq_true c8;clear c8;by_cases c9:x11_1 > 0
      ·rw [if_pos c9] at H;have c9b0:decide (0 < x11_1) = true:=decide_eq_true c9;clear c9;replace H:=oB H;obtain ⟨t415,A10,H⟩:=H;try dsimp only at H
       replace H:=oB H;obtain ⟨t416,A11,H⟩:=H;try dsimp only at H
       by_cases c12:t416 = true
       ·subst c12;replace H:(if 0 ≤ (a1.size:Int) then (if (a1.size:Int) ≤ ((bU ByteArray.empty t411 x11_1).size:Int) then (some ((bU ByteArray.empty t411 x11_1).extract ((a1.size:Int):Int).toNat (bU ByteArray.empty t411 x11_1).size,true)) else (none)) else (none)) = some (r1,r2):=dS;by_cases c13:0 ≤ (a1.size:Int)
        ·rw [if_pos c13] at H;have c13b0:=eq_true c13;have c13b1:=decide_eq_true c13;clear c13;by_cases c14:(a1.size:Int) ≤ ((bU ByteArray.empty t411 x11_1).size:Int)
         ·rw [if_pos c14] at H;have c14b0:=eq_true c14;have c14b1:=decide_eq_true c14;clear c14;simp only [Option.some.injEq,Prod.mk.injEq] at H;obtain ⟨rfl,rfl⟩:=H;have p414:0 ≤ (x11_1:Int):=pI;have q414:x11_1 < (t411.length:Int):=pI;obtain ⟨ad414,e414,hx414_0⟩:=Kd.jc (Kd.aV HO_9.out).2.2 x11_1 p414 q414;cases e414;replace p414:=eq_true p414;replace q414:=eq_true q414;go_wp2_with (first | (go_at_call 23;(with_reducible refine (di.calls k1 (bU ByteArray.empty t411 x11_1) t415 _ A10.out).mono ?_);rintro e w15 ⟨rfl,hb⟩;replace HO_9:=aM (Kd.aY (bR HO_9) hb);replace HB:=aM (au bB hb);(try clear hi)) | (go_at_call 24;(with_reducible refine (strings_HasPrefix.calls t415 a1 true _ A11.out).mono ?_);rintro e w' ⟨rfl,⟨nd,rfl⟩⟩));go_ret2;exact ⟨bE,bB⟩
         rw [if_neg c14] at H;exact aB H
        rw [if_neg c13] at H;exact aB H
       replace c12:=Bool.eq_false_iff.mpr c12;subst c12;replace H:(eu.l0 k1 a1 t411 (t411.length:Int) (wrap64 (x11_1 + 1))) = some (r1,r2):=dP;have H':=aM H;clear H;have p414:0 ≤ (x11_1:Int):=pI;have q414:x11_1 < (t411.length:Int):=pI;obtain ⟨ad414,e414,hx414_0⟩:=Kd.jc (Kd.aV HO_9.out).2.2 x11_1 p414 q414;cases e414;replace p414:=eq_true p414;replace q414:=eq_true q414;go_wp2_with (first | (go_at_call 23;(with_reducible refine (di.calls k1 (bU ByteArray.empty t411 x11_1) t415 _ A10.out).mono ?_);rintro e w16 ⟨rfl,hb⟩;replace HO_9:=aM (Kd.aY (bR HO_9) hb);replace HB:=aM (au bB hb);(try clear hi)) | (go_at_call 24;(with_reducible refine (strings_HasPrefix.calls t415 a1 false _ A11.out).mono ?_);rintro e w' ⟨rfl,⟨nd,rfl⟩⟩));go_roundg k1
       case measure=>have:=HK1.out;omega
       case rel=>exact ⟨(wrap64 (x11_1 + 1)),bS,H',⟨by have:=HK1.out;omega⟩,⟨bR HO_9⟩,⟨bB⟩⟩
      rw [if_neg c9] at H;have c9b0:decide (0 < x11_1) = false:=decide_eq_false c9;clear c9;have H':=aM H;clear H;have p414:0 ≤ (x11_1:Int):=pI;have q414:x11_1 < (t411.length:Int):=pI;obtain ⟨ad414,e414,hx414_0⟩:=Kd.jc (Kd.aV HO_9.out).2.2 x11_1 p414 q414;cases e414;replace p414:=eq_true p414;replace q414:=eq_true q414;go_wp2;go_roundg k1
      case measure=>have:=HK1.out;omega
      case rel=>exact ⟨(wrap64 (x11_1 + 1)),bS,H',⟨by have:=HK1.out;omega⟩,⟨bR HO_9⟩,⟨bB⟩⟩
     rw [if_neg c8] at H;exact aB H
    rw [if_neg c7] at H;exact aB H
   rw [if_neg c6] at H;have c6b0:=decide_eq_false c6;clear c6;simp only [Option.some.injEq,Prod.mk.injEq] at H;obtain ⟨rfl,rfl⟩:=H;go_wp2;go_ret2;exact ⟨bE,bB⟩
def fJ.l0:Nat → List ByteArray → ByteArray → Int → Int → Option (Int)
 | 0,_,_,_,_=>none
 | k + 1,x0,x1,x7,x8=>if x8 < x7 then (if 0 ≤ x8 then (if x8 < (x0.length:Int) then (if x1.toList = (bU ByteArray.empty x0 x8).toList then (some x8) else (fJ.l0 k x0 x1 x7 (wrap64 (x8 + 1)))) else (none)) else (none)) else (some (-1))
def fJ.f (k:Nat) (l0:List ByteArray) (a1:ByteArray):Option (Int):=fJ.l0 k l0 a1 (l0.length:Int) 0
theorem fJ.fU:∀ k,(∀ y0 y1 y2 y3,aN (fJ.l0 k y0 y1 y2 y3) (fJ.l0 (k + 1) y0 y1 y2 y3))
 | 0=>fun _ _ _ _ r h=>by simp [fJ.l0] at h
 | k + 1=>by
  have ih0:=fJ.fU k
  ·intro y0 y1 y2 y3
   unfold fJ.l0
   with_reducible repeat' first | exact ih0 _ _ _ _ | exact aN.refl _ | exact aN.none _ | refine aN.ite ?_ ?_ | refine aN.bind ?_ (fun _=>?_)
theorem fJ.mono:∀ a0 a1 k,aN (fJ.f k a0 a1) (fJ.f (k + 1) a0 a1):=by
 intro a0 a1 k
 have ih0:=fJ.fU k
 unfold fJ.f
 with_reducible repeat' first | exact ih0 _ _ _ _ | exact aN.refl _ | exact aN.none _ | refine aN.ite ?_ ?_ | refine aN.bind ?_ (fun _=>?_)
theorem fJ.calls (k:Nat) (A0:Option Addr) (c0:Nat) (l0:List ByteArray) (a1:ByteArray) (r:Int) (w:World) (hr0:Kd.C Kd.string w A0 l0.length l0) (hc0:l0.length ≤ c0) (h:fJ.f k l0 a1 = some r) :
  Calls Tryz.prog 40 #[.slice A0 l0.length c0,.string a1] w fun e w'=>e = .returned (.int .i64 r) ∧ dH w w':=by
 have HR0:=aM hr0;have HC0:=aM hc0;clear hr0 hc0;have H:(fJ.l0 k l0 a1 (l0.length:Int) 0) = some r:=h;clear h;have H':=aM H;clear H;go_enter Tryz.func40,Tryz.ntmps40;go_wp2;go_loopg [8] k (fun kq v8 w'=>∃ (x8_1:Int),v8 = .int .i64 x8_1 ∧ ae (fJ.l0 kq l0 a1 (l0.length:Int) x8_1 = some r) ∧ ae (kq ≤ k) ∧ dH w w')
 case atStart=>exact ⟨(0),bS,H',⟨Nat.le_refl _⟩,bf⟩
 case round =>
  clear H';obtain ⟨x8_1,rfl,HA,HK1,⟨m1,rfl⟩⟩:=hrel
  cases gk with
  | zero=>exact absurd HA.out (by simp [fJ.l0])
  | succ k1 =>
   have H:=HA.out;clear HA;simp only [fJ.l0] at H;by_cases c3:x8_1 < (l0.length:Int)
   ·rw [if_pos c3] at H;have c3b0:=decide_eq_true c3;clear c3;by_cases c4:0 ≤ x8_1
    ·rw [if_pos c4] at H;have c4b0:=decide_eq_true c4;clear c4;by_cases c5:x8_1 < (l0.length:Int)
     ·rw [if_pos c5] at H;have c5b0:=decide_eq_true c5;clear c5;by_cases c6:a1.toList = (bU ByteArray.empty l0 x8_1).toList
      ·rw [if_pos c6] at H;have c6b0:(a1.toList == (bU ByteArray.empty l0 x8_1).toList) = true:=beq_iff_eq.mpr c6;have c6b1:(a1.toList != (bU ByteArray.empty l0 x8_1).toList) = false:=bne_eq_false_iff_eq.mpr c6;clear c6;obtain rfl:=Option.some.inj H;have p417:0 ≤ (x8_1:Int):=pI;have q417:x8_1 < (l0.length:Int):=pI;obtain ⟨ad417,e417,hx417_0⟩:=Kd.jc HR0.out x8_1 p417 q417;cases e417;replace p417:=eq_true p417;replace q417:=eq_true q417;go_wp2;go_ret;exact ⟨bS,bf⟩
      rw [if_neg c6] at H;have c6b0:(a1.toList == (bU ByteArray.empty l0 x8_1).toList) = false:=beq_eq_false_iff_ne.mpr c6;have c6b1:(a1.toList != (bU ByteArray.empty l0 x8_1).toList) = true:=bne_iff_ne.mpr c6;have H':=aM H;clear H;have p417:0 ≤ (x8_1:Int):=pI;have q417:x8_1 < (l0.length:Int):=pI;obtain ⟨ad417,e417,hx417_0⟩:=Kd.jc HR0.out x8_1 p417 q417;cases e417;replace p417:=eq_true p417;replace q417:=eq_true q417;go_wp2;go_roundg k1
      case measure=>have:=HK1.out;omega
      case rel=>exact ⟨(wrap64 (x8_1 + 1)),bS,H',⟨by have:=HK1.out;omega⟩,bf⟩
     rw [if_neg c5] at H;exact aB H
    rw [if_neg c4] at H;exact aB H
   rw [if_neg c3] at H;have c3b0:=decide_eq_false c3;clear c3;obtain rfl:=Option.some.inj H;go_wp2;go_ret;exact ⟨bS,bf⟩
def oQ.f  : Option (List ByteArray):=some (([(⟨#[117,115,45,97,115,99,105,105]⟩ : ByteArray),(⟨#[105,115,111,45,56,56,53,57,45,49]⟩ : ByteArray),(⟨#[105,115,111,45,56,56,53,57,45,53]⟩ : ByteArray),(⟨#[117,116,102,45,56]⟩ : ByteArray),(⟨#[117,116,102,45,49,54]⟩ : ByteArray)]:List ByteArray))
theorem oQ.calls  (r:List ByteArray) (w:World) (h:oQ.f  = some r) :
  Calls Tryz.prog 41 #[] w fun e w'=>∃ v0_:Value,e = .returned (v0_) ∧ Kd.R Kd.string 9 w' w.heap.size (fun _=>True) v0_ r ∧ Below w.heap.size w w':=by
 have HB:=aM (Below.refl w.heap.size w);have H:(some (([(⟨#[117,115,45,97,115,99,105,105]⟩ : ByteArray),(⟨#[105,115,111,45,56,56,53,57,45,49]⟩ : ByteArray),(⟨#[105,115,111,45,56,56,53,57,45,53]⟩ : ByteArray),(⟨#[117,116,102,45,56]⟩ : ByteArray),(⟨#[117,116,102,45,49,54]⟩ : ByteArray)]:List ByteArray))) = some r:=h;clear h;obtain ⟨y418,hy418⟩ : ∃ y_:List ByteArray,y_ = (([(⟨#[117,115,45,97,115,99,105,105]⟩ : ByteArray),(⟨#[105,115,111,45,56,56,53,57,45,49]⟩ : ByteArray),(⟨#[105,115,111,45,56,56,53,57,45,53]⟩ : ByteArray),(⟨#[117,116,102,45,56]⟩ : ByteArray),(⟨#[117,116,102,45,49,54]⟩ : ByteArray)]:List ByteArray)):=⟨_,rfl⟩;replace H:(some y418) = some r:=bg hy418;have Ny418:=aM hy418;clear hy418;obtain rfl:=Option.some.inj H;go_enter Tryz.func41,Tryz.ntmps41;go_wp2_with (first | ((with_reducible refine bF (N:=1) rfl ?_);refine Kd.fG Kd.string _ 9 ?hg (N:=1) ?hd (xs:=([(⟨#[117,115,45,97,115,99,105,105]⟩ : ByteArray),(⟨#[105,115,111,45,56,56,53,57,45,49]⟩ : ByteArray),(⟨#[105,115,111,45,56,56,53,57,45,53]⟩ : ByteArray),(⟨#[117,116,102,45,56]⟩ : ByteArray),(⟨#[117,116,102,45,49,54]⟩ : ByteArray)]:List ByteArray)) (inner:=[.string (⟨#[117,115,45,97,115,99,105,105]⟩ : ByteArray),.string (⟨#[105,115,111,45,56,56,53,57,45,49]⟩ : ByteArray),.string (⟨#[105,115,111,45,56,56,53,57,45,53]⟩ : ByteArray),.string (⟨#[117,116,102,45,56]⟩ : ByteArray),.string (⟨#[117,116,102,45,49,54]⟩ : ByteArray)]) (ok:=fun _=>True) (okp:=fun _=>True) ?hr ?hp (fun _ hk=>hk) trivial (Below.refl _ _) (Nat.le_refl _) (by simp) ?_;(case hd=>rfl);(case hg=>rfl);(case hr=>exact aW);(case hp=>exact (ax.one (show Kd.M Kd.string _ _ _ (⟨#[117,115,45,97,115,99,105,105]⟩ : ByteArray) [.string (⟨#[117,115,45,97,115,99,105,105]⟩ : ByteArray)] from rfl) (ax.one (show Kd.M Kd.string _ _ _ (⟨#[105,115,111,45,56,56,53,57,45,49]⟩ : ByteArray) [.string (⟨#[105,115,111,45,56,56,53,57,45,49]⟩ : ByteArray)] from rfl) (ax.one (show Kd.M Kd.string _ _ _ (⟨#[105,115,111,45,56,56,53,57,45,53]⟩ : ByteArray) [.string (⟨#[105,115,111,45,56,56,53,57,45,53]⟩ : ByteArray)] from rfl) (ax.one (show Kd.M Kd.string _ _ _ (⟨#[117,116,102,45,56]⟩ : ByteArray) [.string (⟨#[117,116,102,45,56]⟩ : ByteArray)] from rfl) (ax.one (show Kd.M Kd.string _ _ _ (⟨#[117,116,102,45,49,54]⟩ : ByteArray) [.string (⟨#[117,116,102,45,49,54]⟩ : ByteArray)] from rfl) (ax.none _ _)))))));intro v419 w1 ho2 hb hg_ hnew_;clear hg_ hnew_;(first | rw [← Ny418.out] at ho2 | (simp only [Int.reduceToNat] at ho2;rw [← Ny418.out] at ho2));have HO420:=aM (Kd.aQ ho2 (aJ bB));replace HB:=aM (au bB hb);clear hb ho2));go_ret;exact ⟨_,bE,bR HO420,bB⟩
def jS.f (k:Nat) (a0:ByteArray):Option (Int × Int):=(oQ.f).bind fun t422=>((di.f k a0).bind fun t425=>((fJ.f k t422 t425).bind fun t426=>(if t426 < 0 then (some (4,0)) else (some (0,wrap64 (t426 + 1))))))
theorem jS.mono:∀ a0 k,aN (jS.f k a0) (jS.f (k + 1) a0):=by
 intro a0 k
 unfold jS.f
 with_reducible repeat' first | exact di.mono _ _ | exact fJ.mono _ _ _ | exact aN.refl _ | exact aN.none _ | refine aN.ite ?_ ?_ | refine aN.bind ?_ (fun _=>?_)
theorem jS.calls (k:Nat) (a0:ByteArray) (r1:Int) (r2:Int) (w:World) (h:jS.f k a0 = some (r1,r2)) :
  Calls Tryz.prog 26 #[.string a0] w fun e w'=>e = .returned (.agg #[.int .i64 r1,.int .i64 r2]) ∧ Below w.heap.size w w':=by
 have hu36:=Tryz.underlying36;have HB:=aM (Below.refl w.heap.size w);have H:((oQ.f).bind fun t422=>((di.f k a0).bind fun t425=>((fJ.f k t422 t425).bind fun t426=>(if t426 < 0 then (some (4,0)) else (some (0,wrap64 (t426 + 1))))))) = some (r1,r2):=h;clear h;replace H:=oB H;obtain ⟨t422,A2,H⟩:=H;try dsimp only at H
 replace H:=oB H;obtain ⟨t425,A3,H⟩:=H;try dsimp only at H
 replace H:=oB H;obtain ⟨t426,A4,H⟩:=H;try dsimp only at H
 by_cases c5:t426 < 0
 ·rw [if_pos c5] at H;have c5b0:=decide_eq_true c5;clear c5;simp only [Option.some.injEq,Prod.mk.injEq] at H;obtain ⟨rfl,rfl⟩:=H;go_enter Tryz.func26,Tryz.ntmps26;go_wp2_with (first | ((with_reducible refine bF (N:=2) rfl ?_);refine dW ?hg (N:=2) ?hd (cs:=#[.int .i64 0,.int .i64 0]) (t:=36) ?hr ?_;(case hd=>rfl);(case hg=>rfl);(case hr=>exact aW);intro gb421 hg w6 hbox hb;have BK421:=aM hbox;have GW421:=aM ((dw:w.heap.size ≤ gb421));have GE421:=aM ((dw:w.heap.size ≤ gb421));replace HB:=aM (au bB hb);clear hb hbox hg) | ((with_reducible refine gC 41 rfl ?_);refine ah (some 4) Tryz.func41 #[] ?_;(with_reducible refine (oQ.calls  t422 _ A2.out).mono ?_);rintro e w7 ⟨v423,rfl,ho0,hb⟩;refine ⟨_,rfl,?_⟩;have HO424:=aM (Kd.aQ ho0 (aJ (bG GE421)));replace BK421:=aM (bQ BK421 hb);replace HB:=aM (au (bG GE421) hb);(try clear ho0)) | ((with_reducible refine gC 23 rfl ?_);refine ah (some 6) Tryz.func23 #[.string a0] ?_;(with_reducible refine (di.calls k a0 t425 _ A3.out).mono ?_);rintro e w8 ⟨rfl,hb⟩;refine ⟨_,rfl,?_⟩;replace HO424:=aM (Kd.aY (bR HO424) hb);replace BK421:=aM (bQ BK421 hb);replace HB:=aM (au (bG GE421) hb);obtain ⟨Ao9,co9,eo9⟩:=Kd.bn HO424.out;subst eo9) | ((with_reducible refine gC 40 rfl ?_);refine ah (some 7) Tryz.func40 #[.slice Ao9 t422.length co9,.string t425] ?_;(with_reducible refine (fJ.calls k _ _ t422 t425 t426 _ ?side1 ?side2 A4.out).mono ?_);(case side1=>exact dO HO424.out);(case side2=>exact (Kd.aV HO424.out).2.1);rintro e w' ⟨rfl,⟨nd,rfl⟩⟩;refine ⟨_,rfl,?_⟩;(try (rw [iq w8];generalize hq_:World.drewN w8 _ = w8;have n0_:ae (Kd.R Kd.string 9 w8 w.heap.size (fun _=>True) (.slice Ao9 t422.length co9) t422):=⟨by rw [← hq_];exact (bR HO424)⟩;have n1_:ae (w8.heap[gb421]? = some (.cells #[.int .i64 0,.int .i64 0] 36 (0,0))):=⟨by rw [← hq_];exact (bL BK421)⟩;have n2_:ae (Below w.heap.size w w8):=⟨by rw [← hq_];exact (bG GE421)⟩;clear HO424 BK421 HB hq_;have HO424:=n0_;have BK421:=n1_;have HB:=n2_;clear n0_ n1_ n2_));obtain ⟨hcz10_0,hcz10_1,hfz10_0,hfz10_1⟩:=cC2 BK421.out));refine bodyPost_ret (results_cell_row rfl _ _ gb421 36 #[.int .i64 4,.int .i64 0] (0,0) _ rfl (by (with_reducible repeat (first | refine ak ?_ _ | refine aj ?_ | refine ai ?_ _));refine aI (cs:=#[.int .i64 4,.int .i64 0]) ?_ 1 _ rfl;(with_reducible repeat (first | refine ak ?_ _ | refine aj ?_ | refine ai ?_ _));refine aI (cs:=#[.int .i64 0,.int .i64 0]) ?_ 0 _ rfl;(with_reducible repeat (first | refine ak ?_ _ | refine aj ?_ | refine ai ?_ _));exact BK421.out) Tryz.underlying36 rfl (by kernel_rfl)) rfl ?_;exact ⟨bE,bG GE421⟩
 rw [if_neg c5] at H;have c5b0:=decide_eq_false c5;clear c5;simp only [Option.some.injEq,Prod.mk.injEq] at H;obtain ⟨rfl,rfl⟩:=H;go_enter Tryz.func26,Tryz.ntmps26;go_wp2_with (first | ((with_reducible refine bF (N:=2) rfl ?_);refine dW ?hg (N:=2) ?hd (cs:=#[.int .i64 0,.int .i64 0]) (t:=36) ?hr ?_;(case hd=>rfl);(case hg=>rfl);(case hr=>exact aW);intro gb421 hg w11 hbox hb;have BK421:=aM hbox;have GW421:=aM ((dw:w.heap.size ≤ gb421));have GE421:=aM ((dw:w.heap.size ≤ gb421));replace HB:=aM (au bB hb);clear hb hbox hg) | ((with_reducible refine gC 41 rfl ?_);refine ah (some 4) Tryz.func41 #[] ?_;(with_reducible refine (oQ.calls  t422 _ A2.out).mono ?_);rintro e w12 ⟨v423,rfl,ho0,hb⟩;refine ⟨_,rfl,?_⟩;have HO424:=aM (Kd.aQ ho0 (aJ (bG GE421)));replace BK421:=aM (bQ BK421 hb);replace HB:=aM (au (bG GE421) hb);(try clear ho0)) | ((with_reducible refine gC 23 rfl ?_);refine ah (some 6) Tryz.func23 #[.string a0] ?_;(with_reducible refine (di.calls k a0 t425 _ A3.out).mono ?_);rintro e w13 ⟨rfl,hb⟩;refine ⟨_,rfl,?_⟩;replace HO424:=aM (Kd.aY (bR HO424) hb);replace BK421:=aM (bQ BK421 hb);replace HB:=aM (au (bG GE421) hb);obtain ⟨Ao14,co14,eo14⟩:=Kd.bn HO424.out;subst eo14) | ((with_reducible refine gC 40 rfl ?_);refine ah (some 7) Tryz.func40 #[.slice Ao14 t422.length co14,.string t425] ?_;(with_reducible refine (fJ.calls k _ _ t422 t425 t426 _ ?side1 ?side2 A4.out).mono ?_);(case side1=>exact dO HO424.out);(case side2=>exact (Kd.aV HO424.out).2.1);rintro e w' ⟨rfl,⟨nd,rfl⟩⟩;refine ⟨_,rfl,?_⟩;(try (rw [iq w13];generalize hq_:World.drewN w13 _ = w13;have n0_:ae (Kd.R Kd.string 9 w13 w.heap.size (fun _=>True) (.slice Ao14 t422.length co14) t422):=⟨by rw [← hq_];exact (bR HO424)⟩;have n1_:ae (w13.heap[gb421]? = some (.cells #[.int .i64 0,.int .i64 0] 36 (0,0))):=⟨by rw [← hq_];exact (bL BK421)⟩;have n2_:ae (Below w.heap.size w w13):=⟨by rw [← hq_];exact (bG GE421)⟩;clear HO424 BK421 HB hq_;have HO424:=n0_;have BK421:=n1_;have HB:=n2_;clear n0_ n1_ n2_));obtain ⟨hcz15_0,hcz15_1,hfz15_0,hfz15_1⟩:=cC2 BK421.out));refine bodyPost_ret (results_cell_row rfl _ _ gb421 36 #[.int .i64 0,.int .i64 (wrap64 (t426 + 1))] (0,0) _ rfl (by (with_reducible repeat (first | refine ak ?_ _ | refine aj ?_ | refine ai ?_ _));refine aI (cs:=#[.int .i64 0,.int .i64 0]) ?_ 1 _ rfl;(with_reducible repeat (first | refine ak ?_ _ | refine aj ?_ | refine ai ?_ _));refine aI (cs:=#[.int .i64 0,.int .i64 0]) ?_ 0 _ rfl;(with_reducible repeat (first | refine ak ?_ _ | refine aj ?_ | refine ai ?_ _));exact BK421.out) Tryz.underlying36 rfl (by kernel_rfl)) rfl ?_;exact ⟨bE,bG GE421⟩
def eQ.j0:Nat → ByteArray → ByteArray → Option (Int × Int × Int × Int × Int × Int × Int)
 | 0,_,_=>none
 | k + 1,x0,x3=>(strings_HasPrefix.f x3 (⟨#[109,117,108,116,105,112,97,114,116,47]⟩ : ByteArray)).bind fun t433=>(if t433 = true then (some (2,0,0,0,0,0,0)) else ((strings_HasPrefix.f x3 (⟨#[116,101,120,116,47]⟩ : ByteArray)).bind fun t434=>(if t434 = true then ((eu.f k x0 (⟨#[99,104,97,114,115,101,116,61]⟩ : ByteArray)).bind fun bt435=>(if bt435.2 = true then ((jS.f k bt435.1).bind fun bt437=>(some (1,bt437.2,0,0,0,0,0))) else (some (1,1,0,0,0,0,0)))) else (some (3,0,0,0,0,0,0)))))
def eQ.f (k:Nat) (a0:ByteArray):Option (Int × Int × Int × Int × Int × Int × Int):=(eF.f k a0).bind fun t428=>(if (t428.length:Int) > 0 then (if 0 < (t428.length:Int) then ((di.f k (bU ByteArray.empty t428 0)).bind fun t432=>(eQ.j0 k a0 t432)) else (none)) else (eQ.j0 k a0 (⟨#[]⟩ : ByteArray)))
theorem eQ.fU:∀ k,(∀ y0 y1,aN (eQ.j0 k y0 y1) (eQ.j0 (k + 1) y0 y1))
 | 0=>fun _ _ r h=>by simp [eQ.j0] at h
 | k + 1=>by
  have ih0:=eQ.fU k
  ·intro y0 y1
   unfold eQ.j0
   with_reducible repeat' first | exact ih0 _ _ | exact jS.mono _ _ | exact eu.mono _ _ _ | exact eF.mono _ _ | exact di.mono _ _ | exact aN.refl _ | exact aN.none _ | refine aN.ite ?_ ?_ | refine aN.bind ?_ (fun _=>?_)
theorem eQ.mono:∀ a0 k,aN (eQ.f k a0) (eQ.f (k + 1) a0):=by
 intro a0 k
 have ih0:=eQ.fU k
 unfold eQ.f
 with_reducible repeat' first | exact ih0 _ _ | exact jS.mono _ _ | exact eu.mono _ _ _ | exact eF.mono _ _ | exact di.mono _ _ | exact aN.refl _ | exact aN.none _ | refine aN.ite ?_ ?_ | refine aN.bind ?_ (fun _=>?_)
theorem eQ.calls (k:Nat) (a0:ByteArray) (r1:Int) (r2:Int) (r3:Int) (r4:Int) (r5:Int) (r6:Int) (r7:Int) (w:World) (h:eQ.f k a0 = some (r1,r2,r3,r4,r5,r6,r7)) :
  Calls Tryz.prog 11 #[.string a0] w fun e w'=>e = .returned (.agg #[.int .i64 r1,.int .i64 r2,.int .i64 r3,.int .i64 r4,.int .i64 r5,.int .i64 r6,.int .i64 r7]) ∧ Below w.heap.size w w':=by
 have hu30:=Tryz.underlying30;have HB:=aM (Below.refl w.heap.size w);have H:((eF.f k a0).bind fun t428=>(if (t428.length:Int) > 0 then (if 0 < (t428.length:Int) then ((di.f k (bU ByteArray.empty t428 0)).bind fun t432=>(eQ.j0 k a0 t432)) else (none)) else (eQ.j0 k a0 (⟨#[]⟩ : ByteArray)))) = some (r1,r2,r3,r4,r5,r6,r7):=h;clear h;replace H:=oB H;obtain ⟨t428,A2,H⟩:=H;try dsimp only at H
 have HC3:=aM H;clear H;go_enter Tryz.func11,Tryz.ntmps11;go_upto_if 11 with (first | ((with_reducible refine bF (N:=2) rfl ?_);refine dW ?hg (N:=2) ?hd (cs:=#[.int .i64 0,.int .i64 0,.int .i64 0,.int .i64 0,.int .i64 0,.int .i64 0,.int .i64 0]) (t:=30) ?hr ?_;(case hd=>rfl);(case hg=>rfl);(case hr=>exact aW);intro gb427 hg w4 hbox hb;have BK427:=aM hbox;have GW427:=aM ((dw:w.heap.size ≤ gb427));have GE427:=aM ((dw:w.heap.size ≤ gb427));replace HB:=aM (au bB hb);clear hb hbox hg) | ((with_reducible refine gC 22 rfl ?_);refine ah (some 8) Tryz.func22 #[.string a0] ?_;(with_reducible refine (eF.calls k a0 t428 _ A2.out).mono ?_);rintro e w5 ⟨v429,rfl,ho0,hb⟩;refine ⟨_,rfl,?_⟩;have HO430:=aM (Kd.aQ ho0 (aJ (bG GE427)));replace BK427:=aM (bQ BK427 hb);replace HB:=aM (au (bG GE427) hb);(try clear ho0);obtain ⟨Ao6,co6,eo6⟩:=Kd.bn HO430.out;subst eo6));(try simp only [Act.put,List.setIfInBounds_toArray,List.set_cons_zero,List.set_cons_succ]);go_cut [3] (fun v3 wc=>∃ (kq:Nat) (x3_2:ByteArray),v3 = .string x3_2 ∧ ae (eQ.j0 kq a0 x3_2 = some (r1,r2,r3,r4,r5,r6,r7)) ∧ ae (kq ≤ k) ∧ ae (wc.heap[gb427]? = some (.cells #[.int .i64 0,.int .i64 0,.int .i64 0,.int .i64 0,.int .i64 0,.int .i64 0,.int .i64 0] 30 (0,0))) ∧ ae (Below w.heap.size w wc))
 case first =>
  have H:=HC3.out;clear HC3;by_cases c7:(t428.length:Int) > 0
  ·rw [if_pos c7] at H;have c7b0:decide (0 < (t428.length:Int)) = true:=decide_eq_true c7;have c7b1:decide (0 < t428.length) = true:=decide_eq_true (by omega);clear c7;(first | rw [c7b0] | rw [c7b1] | (simp only [bV,dh];rw [c7b0]) | skip);by_cases c8:0 < (t428.length:Int)
   ·rw [if_pos c8] at H;have c8b0:=decide_eq_true c8;have c8b1:decide (0 < t428.length) = true:=decide_eq_true (by omega);clear c8;replace H:=oB H;obtain ⟨t432,A9,H⟩:=H;try dsimp only at H
    have H':=aM H;clear H;have p431:0 ≤ (0:Int):=(by omega);have q431:0 < (t428.length:Int):=pI;obtain ⟨ad431,e431,hx431_0⟩:=Kd.jc (Kd.aV HO430.out).2.2 0 p431 q431;cases e431;have qi431:(0 < t428.length) = True:=eq_true (by omega);(try rw [show ((0:Int)).toNat = 0 from rfl] at hx431_0);(try rw [Addr.add_zero'] at hx431_0);replace p431:=eq_true p431;replace q431:=eq_true q431;go_wp2_with (first | ((with_reducible refine gC 23 rfl ?_);refine ah (some 15) Tryz.func23 #[.string (bU ByteArray.empty t428 0)] ?_;(with_reducible refine (di.calls k (bU ByteArray.empty t428 0) t432 _ A9.out).mono ?_);rintro e w10 ⟨rfl,hb⟩;refine ⟨_,rfl,?_⟩;replace HO430:=aM (Kd.aY (bR HO430) hb);replace BK427:=aM (bQ BK427 hb);replace HB:=aM (au (bG GE427) hb);(try clear hi)));go_meet
    case rel=>exact ⟨_,(t432),bS,H',⟨jY⟩,⟨bL BK427⟩,⟨bG GE427⟩⟩
   rw [if_neg c8] at H;exact aB H
  rw [if_neg c7] at H;have c7b0:decide (0 < (t428.length:Int)) = false:=decide_eq_false c7;have c7b1:decide (0 < t428.length) = false:=decide_eq_false (by omega);clear c7;(first | rw [c7b0] | rw [c7b1] | (simp only [bV,dh];rw [c7b0]) | skip);have H':=aM H;clear H;go_wp2;go_meet
  case rel=>exact ⟨_,((⟨#[]⟩ : ByteArray)),bS,H',⟨jY⟩,⟨bL BK427⟩,⟨bG GE427⟩⟩
 case rest =>
  clear HC3;obtain ⟨kq,x3_2,rfl,HA,HJ2,BK427,HB⟩:=hcut
  cases kq with
  | zero=>exact absurd HA.out (by simp [eQ.j0])
  | succ kj2 =>
   have H:=HA.out;clear HA;simp only [eQ.j0] at H;replace H:=oB H;obtain ⟨t433,A11,H⟩:=H;try dsimp only at H
   by_cases c12:t433 = true
   ·subst c12;replace H:(some (2,0,0,0,0,0,0)) = some (r1,r2,r3,r4,r5,r6,r7):=dS;simp only [Option.some.injEq,Prod.mk.injEq] at H;obtain ⟨rfl,rfl,rfl,rfl,rfl,rfl,rfl⟩:=H;go_wp2_with (first | ((with_reducible refine gC 24 rfl ?_);refine ah (some 18) Tryz.func24 #[.string x3_2,.string (⟨#[109,117,108,116,105,112,97,114,116,47]⟩ : ByteArray)] ?_;(with_reducible refine (strings_HasPrefix.calls x3_2 (⟨#[109,117,108,116,105,112,97,114,116,47]⟩ : ByteArray) true _ A11.out).mono ?_);rintro e w' ⟨rfl,⟨nd,rfl⟩⟩;refine ⟨_,rfl,?_⟩;(try (rw [iq wc];generalize hq_:World.drewN wc _ = wc;have n0_:ae (wc.heap[gb427]? = some (.cells #[.int .i64 0,.int .i64 0,.int .i64 0,.int .i64 0,.int .i64 0,.int .i64 0,.int .i64 0] 30 (0,0))):=⟨o7⟩;have n1_:ae (Below w.heap.size w wc):=⟨oP⟩;clear BK427 HB hq_;have BK427:=n0_;have HB:=n1_;clear n0_ n1_));obtain ⟨hcz13_0,hcz13_1,hcz13_2,hcz13_3,hcz13_4,hcz13_5,hcz13_6,hfz13_0,hfz13_1,hfz13_2,hfz13_3,hfz13_4,hfz13_5,hfz13_6⟩:=dY BK427.out));refine bodyPost_ret (results_cell_row rfl _ _ gb427 30 #[.int .i64 2,.int .i64 0,.int .i64 0,.int .i64 0,.int .i64 0,.int .i64 0,.int .i64 0] (0,0) _ rfl (by (with_reducible repeat (first | refine ak ?_ _ | refine aj ?_ | refine ai ?_ _));refine aI (cs:=#[.int .i64 2,.int .i64 0,.int .i64 0,.int .i64 0,.int .i64 0,.int .i64 0,.int .i64 0]) ?_ 6 _ rfl;(with_reducible repeat (first | refine ak ?_ _ | refine aj ?_ | refine ai ?_ _));refine aI (cs:=#[.int .i64 2,.int .i64 0,.int .i64 0,.int .i64 0,.int .i64 0,.int .i64 0,.int .i64 0]) ?_ 5 _ rfl;(with_reducible repeat (first | refine ak ?_ _ | refine aj ?_ | refine ai ?_ _));refine aI (cs:=#[.int .i64 2,.int .i64 0,.int .i64 0,.int .i64 0,.int .i64 0,.int .i64 0,.int .i64 0]) ?_ 4 _ rfl;(with_reducible repeat (first | refine ak ?_ _ | refine aj ?_ | refine ai ?_ _));refine aI (cs:=#[.int .i64 2,.int .i64 0,.int .i64 0,.int .i64 0,.int .i64 0,.int .i64 0,.int .i64 0]) ?_ 3 _ rfl;(with_reducible repeat (first | refine ak ?_ _ | refine aj ?_ | refine ai ?_ _));refine aI (cs:=#[.int .i64 2,.int .i64 0,.int .i64 0,.int .i64 0,.int .i64 0,.int .i64 0,.int .i64 0]) ?_ 2 _ rfl;(with_reducible repeat (first | refine ak ?_ _ | refine aj ?_ | refine ai ?_ _));refine aI (cs:=#[.int .i64 2,.int .i64 0,.int .i64 0,.int .i64 0,.int .i64 0,.int .i64 0,.int .i64 0]) ?_ 1 _ rfl;(with_reducible repeat (first | refine ak ?_ _ | refine aj ?_ | refine ai ?_ _));refine aI (cs:=#[.int .i64 0,.int .i64 0,.int .i64 0,.int .i64 0,.int .i64 0,.int .i64 0,.int .i64 0]) ?_ 0 _ rfl;(with_reducible repeat (first | refine ak ?_ _ | refine aj ?_ | refine ai ?_ _));exact BK427.out) Tryz.underlying30 rfl (by kernel_rfl)) rfl ?_;exact ⟨bE,bG GE427⟩
   replace c12:=Bool.eq_false_iff.mpr c12;subst c12;replace H:((strings_HasPrefix.f x3_2 (⟨#[116,101,120,116,47]⟩ : ByteArray)).bind fun t434=>(if t434 = true then ((eu.f kj2 a0 (⟨#[99,104,97,114,115,101,116,61]⟩ : ByteArray)).bind fun bt435=>(if bt435.2 = true then ((jS.f kj2 bt435.1).bind fun bt437=>(some (1,bt437.2,0,0,0,0,0))) else (some (1,1,0,0,0,0,0)))) else (some (3,0,0,0,0,0,0)))) = some (r1,r2,r3,r4,r5,r6,r7):=dP;replace H:=oB H;obtain ⟨t434,A14,H⟩:=H;try dsimp only at H
   by_cases c15:t434 = true
   ·subst c15;replace H:((eu.f kj2 a0 (⟨#[99,104,97,114,115,101,116,61]⟩ : ByteArray)).bind fun bt435=>(if bt435.2 = true then ((jS.f kj2 bt435.1).bind fun bt437=>(some (1,bt437.2,0,0,0,0,0))) else (some (1,1,0,0,0,0,0)))) = some (r1,r2,r3,r4,r5,r6,r7):=dS;replace H:=oB H;obtain ⟨⟨t435,t436⟩,A16,H⟩:=H;try dsimp only at H
    by_cases c17:t436 = true
    ·subst c17;replace H:((jS.f kj2 t435).bind fun bt437=>(some (1,bt437.2,0,0,0,0,0))) = some (r1,r2,r3,r4,r5,r6,r7):=dS;replace H:=oB H;obtain ⟨⟨t437,t438⟩,A18,H⟩:=H;try dsimp only at H
     simp only [Option.some.injEq,Prod.mk.injEq] at H;obtain ⟨rfl,rfl,rfl,rfl,rfl,rfl,rfl⟩:=H;go_wp2_with (first | ((with_reducible refine gC 24 rfl ?_);refine ah (some 18) Tryz.func24 #[.string x3_2,.string (⟨#[109,117,108,116,105,112,97,114,116,47]⟩ : ByteArray)] ?_;(with_reducible refine (strings_HasPrefix.calls x3_2 (⟨#[109,117,108,116,105,112,97,114,116,47]⟩ : ByteArray) false _ A11.out).mono ?_);rintro e w' ⟨rfl,⟨nd,rfl⟩⟩;refine ⟨_,rfl,?_⟩;(try (rw [iq wc];generalize hq_:World.drewN wc _ = wc;have n0_:ae (wc.heap[gb427]? = some (.cells #[.int .i64 0,.int .i64 0,.int .i64 0,.int .i64 0,.int .i64 0,.int .i64 0,.int .i64 0] 30 (0,0))):=⟨o7⟩;have n1_:ae (Below w.heap.size w wc):=⟨oP⟩;clear BK427 HB hq_;have BK427:=n0_;have HB:=n1_;clear n0_ n1_))) | ((with_reducible refine gC 24 rfl ?_);refine ah (some 22) Tryz.func24 #[.string x3_2,.string (⟨#[116,101,120,116,47]⟩ : ByteArray)] ?_;(with_reducible refine (strings_HasPrefix.calls x3_2 (⟨#[116,101,120,116,47]⟩ : ByteArray) true _ A14.out).mono ?_);rintro e w' ⟨rfl,⟨nd,rfl⟩⟩;refine ⟨_,rfl,?_⟩;(try (rw [iq wc];generalize hq_:World.drewN wc _ = wc;have n0_:ae (wc.heap[gb427]? = some (.cells #[.int .i64 0,.int .i64 0,.int .i64 0,.int .i64 0,.int .i64 0,.int .i64 0,.int .i64 0] 30 (0,0))):=⟨o7⟩;have n1_:ae (Below w.heap.size w wc):=⟨oP⟩;clear BK427 HB hq_;have BK427:=n0_;have HB:=n1_;clear n0_ n1_))) | ((with_reducible refine gC 25 rfl ?_);refine ah (some 27) Tryz.func25 #[.string a0,.string (⟨#[99,104,97,114,115,101,116,61]⟩ : ByteArray)] ?_;(with_reducible refine (eu.calls kj2 a0 (⟨#[99,104,97,114,115,101,116,61]⟩ : ByteArray) t435 true _ A16.out).mono ?_);rintro e w19 ⟨rfl,hb⟩;refine ⟨_,rfl,?_⟩;replace BK427:=aM (bQ BK427 hb);replace HB:=aM (au (bG GE427) hb);(try clear hi)) | ((with_reducible refine gC 26 rfl ?_);refine ah (some 34) Tryz.func26 #[.string t435] ?_;(with_reducible refine (jS.calls kj2 t435 t437 t438 _ A18.out).mono ?_);rintro e w20 ⟨rfl,hb⟩;refine ⟨_,rfl,?_⟩;replace BK427:=aM (bQ BK427 hb);replace HB:=aM (au (bG GE427) hb);obtain ⟨hcz21_0,hcz21_1,hcz21_2,hcz21_3,hcz21_4,hcz21_5,hcz21_6,hfz21_0,hfz21_1,hfz21_2,hfz21_3,hfz21_4,hfz21_5,hfz21_6⟩:=dY BK427.out));refine bodyPost_ret (results_cell_row rfl _ _ gb427 30 #[.int .i64 1,.int .i64 t438,.int .i64 0,.int .i64 0,.int .i64 0,.int .i64 0,.int .i64 0] (0,0) _ rfl (by (with_reducible repeat (first | refine ak ?_ _ | refine aj ?_ | refine ai ?_ _));refine aI (cs:=#[.int .i64 1,.int .i64 t438,.int .i64 0,.int .i64 0,.int .i64 0,.int .i64 0,.int .i64 0]) ?_ 6 _ rfl;(with_reducible repeat (first | refine ak ?_ _ | refine aj ?_ | refine ai ?_ _));refine aI (cs:=#[.int .i64 1,.int .i64 t438,.int .i64 0,.int .i64 0,.int .i64 0,.int .i64 0,.int .i64 0]) ?_ 5 _ rfl;(with_reducible repeat (first | refine ak ?_ _ | refine aj ?_ | refine ai ?_ _));refine aI (cs:=#[.int .i64 1,.int .i64 t438,.int .i64 0,.int .i64 0,.int .i64 0,.int .i64 0,.int .i64 0]) ?_ 4 _ rfl;(with_reducible repeat (first | refine ak ?_ _ | refine aj ?_ | refine ai ?_ _));refine aI (cs:=#[.int .i64 1,.int .i64 t438,.int .i64 0,.int .i64 0,.int .i64 0,.int .i64 0,.int .i64 0]) ?_ 3 _ rfl;(with_reducible repeat (first | refine ak ?_ _ | refine aj ?_ | refine ai ?_ _));refine aI (cs:=#[.int .i64 1,.int .i64 t438,.int .i64 0,.int .i64 0,.int .i64 0,.int .i64 0,.int .i64 0]) ?_ 2 _ rfl;(with_reducible repeat (first | refine ak ?_ _ | refine aj ?_ | refine ai ?_ _));refine aI (cs:=#[.int .i64 1,.int .i64 0,.int .i64 0,.int .i64 0,.int .i64 0,.int .i64 0,.int .i64 0]) ?_ 1 _ rfl;(with_reducible repeat (first | refine ak ?_ _ | refine aj ?_ | refine ai ?_ _));refine aI (cs:=#[.int .i64 0,.int .i64 0,.int .i64 0,.int .i64 0,.int .i64 0,.int .i64 0,.int .i64 0]) ?_ 0 _ rfl;(with_reducible repeat (first | refine ak ?_ _ | refine aj ?_ | refine ai ?_ _));exact BK427.out) Tryz.underlying30 rfl (by kernel_rfl)) rfl ?_;exact ⟨bE,bG GE427⟩
    replace c17:=Bool.eq_false_iff.mpr c17;subst c17;replace H:(some (1,1,0,0,0,0,0)) = some (r1,r2,r3,r4,r5,r6,r7):=dP;simp only [Option.some.injEq,Prod.mk.injEq] at H;obtain ⟨rfl,rfl,rfl,rfl,rfl,rfl,rfl⟩:=H;go_wp2_with (first | ((with_reducible refine gC 24 rfl ?_);refine ah (some 18) Tryz.func24 #[.string x3_2,.string (⟨#[109,117,108,116,105,112,97,114,116,47]⟩ : ByteArray)] ?_;(with_reducible refine (strings_HasPrefix.calls x3_2 (⟨#[109,117,108,116,105,112,97,114,116,47]⟩ : ByteArray) false _ A11.out).mono ?_);rintro e w' ⟨rfl,⟨nd,rfl⟩⟩;refine ⟨_,rfl,?_⟩;(try (rw [iq wc];generalize hq_:World.drewN wc _ = wc;have n0_:ae (wc.heap[gb427]? = some (.cells #[.int .i64 0,.int .i64 0,.int .i64 0,.int .i64 0,.int .i64 0,.int .i64 0,.int .i64 0] 30 (0,0))):=⟨o7⟩;have n1_:ae (Below w.heap.size w wc):=⟨oP⟩;clear BK427 HB hq_;have BK427:=n0_;have HB:=n1_;clear n0_ n1_))) | ((with_reducible refine gC 24 rfl ?_);refine ah (some 22) Tryz.func24 #[.string x3_2,.string (⟨#[116,101,120,116,47]⟩ : ByteArray)] ?_;(with_reducible refine (strings_HasPrefix.calls x3_2 (⟨#[116,101,120,116,47]⟩ : ByteArray) true _ A14.out).mono ?_);rintro e w' ⟨rfl,⟨nd,rfl⟩⟩;refine ⟨_,rfl,?_⟩;(try (rw [iq wc];generalize hq_:World.drewN wc _ = wc;have n0_:ae (wc.heap[gb427]? = some (.cells #[.int .i64 0,.int .i64 0,.int .i64 0,.int .i64 0,.int .i64 0,.int .i64 0,.int .i64 0] 30 (0,0))):=⟨o7⟩;have n1_:ae (Below w.heap.size w wc):=⟨oP⟩;clear BK427 HB hq_;have BK427:=n0_;have HB:=n1_;clear n0_ n1_))) | ((with_reducible refine gC 25 rfl ?_);refine ah (some 27) Tryz.func25 #[.string a0,.string (⟨#[99,104,97,114,115,101,116,61]⟩ : ByteArray)] ?_;(with_reducible refine (eu.calls kj2 a0 (⟨#[99,104,97,114,115,101,116,61]⟩ : ByteArray) t435 false _ A16.out).mono ?_);rintro e w22 ⟨rfl,hb⟩;refine ⟨_,rfl,?_⟩;replace BK427:=aM (bQ BK427 hb);replace HB:=aM (au (bG GE427) hb);obtain ⟨hcz23_0,hcz23_1,hcz23_2,hcz23_3,hcz23_4,hcz23_5,hcz23_6,hfz23_0,hfz23_1,hfz23_2,hfz23_3,hfz23_4,hfz23_5,hfz23_6⟩:=dY BK427.out));refine bodyPost_ret (results_cell_row rfl _ _ gb427 30 #[.int .i64 1,.int .i64 1,.int .i64 0,.int .i64 0,.int .i64 0,.int .i64 0,.int .i64 0] (0,0) _ rfl (oJ BK427.out) Tryz.underlying30 rfl (by kernel_rfl)) rfl ?_;exact ⟨bE,bG GE427⟩
   replace c15:=Bool.eq_false_iff.mpr c15;subst c15;replace H:(some (3,0,0,0,0,0,0)) = some (r1,r2,r3,r4,r5,r6,r7):=dP;simp only [Option.some.injEq,Prod.mk.injEq] at H;obtain ⟨rfl,rfl,rfl,rfl,rfl,rfl,rfl⟩:=H;go_wp2_with (first | ((with_reducible refine gC 24 rfl ?_);refine ah (some 18) Tryz.func24 #[.string x3_2,.string (⟨#[109,117,108,116,105,112,97,114,116,47]⟩ : ByteArray)] ?_;(with_reducible refine (strings_HasPrefix.calls x3_2 (⟨#[109,117,108,116,105,112,97,114,116,47]⟩ : ByteArray) false _ A11.out).mono ?_);rintro e w' ⟨rfl,⟨nd,rfl⟩⟩;refine ⟨_,rfl,?_⟩;(try (rw [iq wc];generalize hq_:World.drewN wc _ = wc;have n0_:ae (wc.heap[gb427]? = some (.cells #[.int .i64 0,.int .i64 0,.int .i64 0,.int .i64 0,.int .i64 0,.int .i64 0,.int .i64 0] 30 (0,0))):=⟨o7⟩;have n1_:ae (Below w.heap.size w wc):=⟨oP⟩;clear BK427 HB hq_;have BK427:=n0_;have HB:=n1_;clear n0_ n1_))) | ((with_reducible refine gC 24 rfl ?_);refine ah (some 22) Tryz.func24 #[.string x3_2,.string (⟨#[116,101,120,116,47]⟩ : ByteArray)] ?_;(with_reducible refine (strings_HasPrefix.calls x3_2 (⟨#[116,101,120,116,47]⟩ : ByteArray) false _ A14.out).mono ?_);rintro e w' ⟨rfl,⟨nd,rfl⟩⟩;refine ⟨_,rfl,?_⟩;(try (rw [iq wc];generalize hq_:World.drewN wc _ = wc;have n0_:ae (wc.heap[gb427]? = some (.cells #[.int .i64 0,.int .i64 0,.int .i64 0,.int .i64 0,.int .i64 0,.int .i64 0,.int .i64 0] 30 (0,0))):=⟨o7⟩;have n1_:ae (Below w.heap.size w wc):=⟨oP⟩;clear BK427 HB hq_;have BK427:=n0_;have HB:=n1_;clear n0_ n1_));obtain ⟨hcz24_0,hcz24_1,hcz24_2,hcz24_3,hcz24_4,hcz24_5,hcz24_6,hfz24_0,hfz24_1,hfz24_2,hfz24_3,hfz24_4,hfz24_5,hfz24_6⟩:=dY BK427.out));refine bodyPost_ret (results_cell_row rfl _ _ gb427 30 #[.int .i64 3,.int .i64 0,.int .i64 0,.int .i64 0,.int .i64 0,.int .i64 0,.int .i64 0] (0,0) _ rfl (sF BK427.out) Tryz.underlying30 rfl (by kernel_rfl)) rfl ?_;exact ⟨bE,bG GE427⟩
def kM.f (a0:Int) (a1:Int) (a2:Int):Option (Bool):=if a0 ≥ a1 then (some (decide (a0 ≤ a2))) else (some false)
theorem kM.calls (a0:Int) (a1:Int) (a2:Int) (r:Bool) (w:World) (h:kM.f a0 a1 a2 = some r) :
  Calls Tryz.prog 34 #[.int .i64 a0,.int .i64 a1,.int .i64 a2] w fun e w'=>e = .returned (.bool r) ∧ dH w w':=by
 have H:(if a0 ≥ a1 then (some (decide (a0 ≤ a2))) else (some false)) = some r:=h;clear h;by_cases c4:a0 ≥ a1
 ·rw [if_pos c4] at H;have c4b0:decide (a1 ≤ a0) = true:=decide_eq_true c4;clear c4;obtain rfl:=Option.some.inj H;go_enter Tryz.func34,Tryz.ntmps34;go_wp2;go_ret;exact ⟨bS,bf⟩
 rw [if_neg c4] at H;have c4b0:decide (a1 ≤ a0) = false:=decide_eq_false c4;clear c4;obtain rfl:=Option.some.inj H;go_enter Tryz.func34,Tryz.ntmps34;go_wp2;go_ret;exact ⟨bS,bf⟩
end Go.Proofs.YtecpanfndodjgaaGreatDoor.PNested
