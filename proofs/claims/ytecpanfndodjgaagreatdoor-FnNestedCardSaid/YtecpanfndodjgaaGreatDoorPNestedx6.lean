/- Part of the proof;words that it uses. -/
import Derived.Test.YtecpanfndodjgaaGreatDoorPNestedx0
import Derived.Test.YtecpanfndodjgaaGreatDoorPNestedx5
namespace Go.Proofs.YtecpanfndodjgaaGreatDoor.PNested
set_option maxHeartbeats 8000000
set_option maxRecDepth 100000
open Go.RowKit Go.Proofs.YtecpanfndodjgaaGreatDoorW.PrintWords Go.Proofs.YtecpanfndodjgaaGreatDoorW.PrintLast Go.Proofs.YtecpanfndodjgaaGreatDoorW.PrintMore
attribute [local go_sem] jJ jL
set_option linter.unusedVariables false
set_option linter.unusedSimpArgs false
def mW.f (l0:List (aH)):Option (Int):=some (l0.length:Int)
theorem mW.calls (A0:Option Addr) (c0:Nat) (l0:List (aH)) (r:Int) (w:World) (hr0:Kd.C k30 w A0 l0.length l0) (hc0:l0.length ≤ c0) (h:mW.f l0 = some r) :
  Calls Tryz.prog 35 #[.slice A0 l0.length c0] w fun e w'=>e = .returned (.int .i64 r) ∧ dH w w':=by
 have HR0:=aM hr0;have HC0:=aM hc0;clear hr0 hc0;have H:(some (l0.length:Int)) = some r:=h;clear h;obtain rfl:=Option.some.inj H;go_enter Tryz.func35,Tryz.ntmps35;go_wp2;go_ret;exact ⟨bS,bf⟩
open Go.Shelf in
def bytes_IndexByte.Df:Go.Shelf.Ren:=⟨fun | 187=>71 | 255=>92 | n=>n,fun | 37=>22 | 5=>5 | 3=>3 | n=>n,fun | n=>n⟩
open Go.Shelf in
theorem bytes_IndexByte.CB:Go.Proofs.Lays.n187 Tryz.prog bytes_IndexByte.Df:={
  mixed:=by kernel_rfl
  f187:=Tryz.func71.trans (congrArg some (by kernel_rfl))
  f255:=Tryz.func92.trans (congrArg some (by kernel_rfl))
  t3:=Tryz.underlying3
  a3:=Tryz.isAgg3
  z3:=Tryz.sizeOf3
  v3:=Tryz.zeroValue3
  t5:=Tryz.underlying5
  a5:=Tryz.isAgg5
  z5:=Tryz.sizeOf5
  v5:=Tryz.zeroValue5
  t37:=Tryz.underlying22
  a37:=Tryz.isAgg22
  z37:=Tryz.sizeOf22
  v37:=Tryz.zeroValue22 }
open Go.Shelf in
open Go.RowKit Go.Lib in
theorem bytes_IndexByte.Ee (a:Addr) (n c:Nat) (xs:List Int) (cv:Int) (w:World) (hx:xs.length = n) (hc:∀ i,i < n → w.cell? (a.add i) = some (.int .u8 (xs.getD i 0))) :
    Calls Tryz.prog 71 #[.slice (some a) n c,.int .u8 cv] w fun e w'=>e = .returned (.int .i64 (Lib.indexByte (Lib.bytesOf xs) cv.toNat.toUInt8)) ∧ w' = w:=Any.bytes_IndexByte_at bytes_IndexByte.CB a n c xs cv w hx hc
def bytes_IndexByte.f (l0:List Int) (a1:Int):Option Int:=if 0 < l0.length then some (Lib.indexByte (Lib.bytesOf l0) a1.toNat.toUInt8) else none
theorem bytes_IndexByte.calls (A0:Option Addr) (c0:Nat) (l0:List Int) (a1:Int) (r:Int) (w:World) (hr0:Kd.C (Kd.int .u8) w A0 l0.length l0) (hc0:l0.length ≤ c0) (h:bytes_IndexByte.f l0 a1 = some r) :
    Calls Tryz.prog 71 #[.slice A0 l0.length c0,.int .u8 a1] w fun e w'=>e = .returned (.int .i64 r) ∧ dH w w':=by
  unfold bytes_IndexByte.f at h;by_cases h0:0 < l0.length
  · rw [if_pos h0] at h;cases h;obtain ⟨ad,rfl,hc⟩:=(Kd.iF (d:=(0:Int)) hr0).2.2 h0;refine (bytes_IndexByte.Ee ad l0.length c0 l0 a1 w rfl (fun i hi=>hc i hi)).mono ?_;rintro e w' ⟨rfl,rfl⟩;exact ⟨rfl,dH.refl _⟩
  rw [if_neg h0] at h;cases h
def mY.f (a0:Int):Option (Bool):=if a0 = 32 then (some true) else (some (a0 == 9))
theorem mY.calls (a0:Int) (r:Bool) (w:World) (h:mY.f a0 = some r) :
  Calls Tryz.prog 72 #[.int .u8 a0] w fun e w'=>e = .returned (.bool r) ∧ dH w w':=by
 have H:(if a0 = 32 then (some true) else (some (a0 == 9))) = some r:=h;clear h;by_cases c2:a0 = 32
 ·rw [if_pos c2] at H;have c2b0:(a0 == 32) = true:=beq_iff_eq.mpr c2;have c2b1:(a0 != 32) = false:=bne_eq_false_iff_eq.mpr c2;clear c2;obtain rfl:=Option.some.inj H;go_enter Tryz.func72,Tryz.ntmps72;go_wp2;go_ret;exact ⟨bS,bf⟩
 rw [if_neg c2] at H;have c2b0:(a0 == 32) = false:=beq_eq_false_iff_ne.mpr c2;have c2b1:(a0 != 32) = true:=bne_iff_ne.mpr c2;obtain rfl:=Option.some.inj H;go_enter Tryz.func72,Tryz.ntmps72;go_wp2;go_ret;exact ⟨bS,bf⟩
open Go.Shelf in
def stringslite_Index.Gv:Go.Shelf.Ren:=⟨fun | 219=>102 | 217=>111 | 225=>110 | 224=>109 | 267=>112 | 266=>114 | 314=>115 | n=>n,fun | 9=>9 | 3=>3 | 4=>4 | 5=>5 | 46=>134 | 146=>141 | 51=>140 | n=>n,fun | 1=>0 | n=>n⟩
open Go.Shelf in
theorem stringslite_Index.BQ:Go.Proofs.Lays.n219 Tryz.prog stringslite_Index.Gv:={
  mixed:=by kernel_rfl
  f217:=Tryz.func111.trans (congrArg some (by kernel_rfl))
  f219:=Tryz.func102.trans (congrArg some (by kernel_rfl))
  f224:=Tryz.func109.trans (congrArg some (by kernel_rfl))
  f225:=Tryz.func110.trans (congrArg some (by kernel_rfl))
  f266:=Tryz.func114.trans (congrArg some (by kernel_rfl))
  f267:=Tryz.func112.trans (congrArg some (by kernel_rfl))
  f314:=Tryz.func115.trans (congrArg some (by kernel_rfl))
  t3:=Tryz.underlying3
  a3:=Tryz.isAgg3
  z3:=Tryz.sizeOf3
  v3:=Tryz.zeroValue3
  t4:=Tryz.underlying4
  a4:=Tryz.isAgg4
  z4:=Tryz.sizeOf4
  v4:=Tryz.zeroValue4
  t5:=Tryz.underlying5
  a5:=Tryz.isAgg5
  z5:=Tryz.sizeOf5
  v5:=Tryz.zeroValue5
  t9:=Tryz.underlying9
  a9:=Tryz.isAgg9
  z9:=Tryz.sizeOf9
  v9:=Tryz.zeroValue9
  t46:=Tryz.underlying134
  a46:=Tryz.isAgg134
  z46:=Tryz.sizeOf134
  v46:=Tryz.zeroValue134
  t51:=Tryz.underlying140
  a51:=Tryz.isAgg140
  z51:=Tryz.sizeOf140
  v51:=Tryz.zeroValue140
  t146:=Tryz.underlying141
  a146:=Tryz.isAgg141
  z146:=Tryz.sizeOf141
  v146:=Tryz.zeroValue141
  g1:=by kernel_rfl }
open Go.Shelf in
open Go.RowKit Go.Lib in
theorem stringslite_Index.CP (s:ByteArray) (c:UInt8) (w:World) :
    Calls Tryz.prog 102 #[.string s,.string ⟨#[c]⟩] w fun e w'=>e = .returned (.int .i64 (Lib.indexByte s.data.toList c)) ∧ w' = w:=Any.stringslite_Index_one stringslite_Index.BQ s c w
def stringslite_Index.f (a0:ByteArray) (a1:ByteArray):Option Int:=if a1.size = 1 then some (Lib.indexByte a0.data.toList (bt a1 0).toNat.toUInt8) else none
theorem stringslite_Index.one (a:ByteArray) (h:a.size = 1):a = ⟨#[(bt a 0).toNat.toUInt8]⟩:=by
  match a,h with
  | ⟨⟨[c]⟩⟩,_ =>
    have:(bt (⟨⟨[c]⟩⟩ : ByteArray) 0).toNat.toUInt8 = c:=by
      show ((c.toNat:Int)).toNat.toUInt8 = c
      simp
    rw [this]
theorem stringslite_Index.calls (a0:ByteArray) (a1:ByteArray) (r:Int) (w:World) (h:stringslite_Index.f a0 a1 = some r) :
    Calls Tryz.prog 102 #[.string a0,.string a1] w fun e w'=>e = .returned (.int .i64 r) ∧ dH w w':=by
  unfold stringslite_Index.f at h;by_cases h1:a1.size = 1
  · rw [if_pos h1] at h;cases h;have e:=stringslite_Index.one a1 h1;have hc:=stringslite_Index.CP a0 (bt a1 0).toNat.toUInt8 w;rw [← e] at hc;refine hc.mono ?_;rintro e w' ⟨rfl,rfl⟩;exact ⟨rfl,dH.refl _⟩
  rw [if_neg h1] at h;cases h
def stringslite_Cut.f (a0:ByteArray) (a1:ByteArray):Option (ByteArray × ByteArray × Bool):=(stringslite_Index.f a0 a1).bind fun t439=>(if t439 ≥ 0 then (if 0 ≤ t439 then (if t439 ≤ (a0.size:Int) then (if 0 ≤ (wrap64 (t439 + (a1.size:Int))) then (if (wrap64 (t439 + (a1.size:Int))) ≤ (a0.size:Int) then (some (a0.extract 0 (t439:Int).toNat,a0.extract ((wrap64 (t439 + (a1.size:Int))):Int).toNat a0.size,true)) else (none)) else (none)) else (none)) else (none)) else (some (a0,(⟨#[]⟩ : ByteArray),false)))
theorem stringslite_Cut.calls (a0:ByteArray) (a1:ByteArray) (r1:ByteArray) (r2:ByteArray) (r3:Bool) (w:World) (h:stringslite_Cut.f a0 a1 = some (r1,r2,r3)) :
  Calls Tryz.prog 93 #[.string a0,.string a1] w fun e w'=>e = .returned (.tuple #[.string r1,.string r2,.bool r3]) ∧ dH w w':=by
 have H:((stringslite_Index.f a0 a1).bind fun t439=>(if t439 ≥ 0 then (if 0 ≤ t439 then (if t439 ≤ (a0.size:Int) then (if 0 ≤ (wrap64 (t439 + (a1.size:Int))) then (if (wrap64 (t439 + (a1.size:Int))) ≤ (a0.size:Int) then (some (a0.extract 0 (t439:Int).toNat,a0.extract ((wrap64 (t439 + (a1.size:Int))):Int).toNat a0.size,true)) else (none)) else (none)) else (none)) else (none)) else (some (a0,(⟨#[]⟩ : ByteArray),false)))) = some (r1,r2,r3):=h;clear h;replace H:=oB H;obtain ⟨t439,A3,H⟩:=H;try dsimp only at H
 by_cases c4:t439 ≥ 0
 ·rw [if_pos c4] at H;have c4b0:decide (0 ≤ t439) = true:=decide_eq_true c4;clear c4;by_cases c5:0 ≤ t439
  ·rw [if_pos c5] at H;have c5b0:=eq_true c5;have c5b1:=decide_eq_true c5;clear c5;by_cases c6:t439 ≤ (a0.size:Int)
   ·rw [if_pos c6] at H;have c6b0:=eq_true c6;have c6b1:=decide_eq_true c6;clear c6;obtain ⟨ji7,hji7⟩ : ∃ j_:Int,(wrap64 (t439 + (a1.size:Int))) = j_:=⟨_,rfl⟩;replace H:(if 0 ≤ (ji7) then (if (ji7) ≤ (a0.size:Int) then (some (a0.extract 0 (t439:Int).toNat,a0.extract ((ji7):Int).toNat a0.size,true)) else (none)) else (none)) = some (r1,r2,r3):=by first | (rw [hji7] at H;exact H) | (simp only [hji7] at H ⊢;exact H)
    (try rw [hji7] at A3);have hji7w:(IntKind.i64.wrap (t439 + (a1.size:Int))) = ji7:=(bV _).trans hji7;by_cases c8:0 ≤ (ji7)
    ·rw [if_pos c8] at H;have c8b0:=eq_true c8;have c8b1:=decide_eq_true c8;clear c8;by_cases c9:(ji7) ≤ (a0.size:Int)
     ·rw [if_pos c9] at H;have c9b0:=eq_true c9;have c9b1:=decide_eq_true c9;clear c9;simp only [Option.some.injEq,Prod.mk.injEq] at H;obtain ⟨rfl,rfl,rfl⟩:=H;go_enter Tryz.func93,Tryz.ntmps93;iterate 8 (go_wp2_with (first | (go_at_call 102;(with_reducible refine (stringslite_Index.calls a0 a1 t439 _ A3.out).mono ?_);rintro e w' ⟨rfl,⟨nd,rfl⟩⟩;(try first | exact ⟨rfl,_,World.drewN_drewN _ _ _⟩ | exact ⟨rfl,_,Eq.trans (World.drewN_drewN _ _ _) (congrArg (World.drewN _) (Nat.add_assoc _ _ _))⟩)));try go_quiet (first | (go_at_call 102;(with_reducible refine (stringslite_Index.calls a0 a1 t439 _ A3.out).mono ?_);rintro e w' ⟨rfl,⟨nd,rfl⟩⟩;(try first | exact ⟨rfl,_,World.drewN_drewN _ _ _⟩ | exact ⟨rfl,_,Eq.trans (World.drewN_drewN _ _ _) (congrArg (World.drewN _) (Nat.add_assoc _ _ _))⟩))))
      go_ret3;exact ⟨by first | rfl | (simp;done) | (simp only [← hji7] <;> (first | rfl | simp)) | (simp [*];done),bf⟩
     rw [if_neg c9] at H;exact aB H
    rw [if_neg c8] at H;exact aB H
   rw [if_neg c6] at H;exact aB H
  rw [if_neg c5] at H;exact aB H
 rw [if_neg c4] at H;have c4b0:decide (0 ≤ t439) = false:=decide_eq_false c4;clear c4;simp only [Option.some.injEq,Prod.mk.injEq] at H;obtain ⟨rfl,rfl,rfl⟩:=H;go_enter Tryz.func93,Tryz.ntmps93;iterate 8 (go_wp2_with (first | (go_at_call 102;(with_reducible refine (stringslite_Index.calls a0 a1 t439 _ A3.out).mono ?_);rintro e w' ⟨rfl,⟨nd,rfl⟩⟩;(try first | exact ⟨rfl,_,World.drewN_drewN _ _ _⟩ | exact ⟨rfl,_,Eq.trans (World.drewN_drewN _ _ _) (congrArg (World.drewN _) (Nat.add_assoc _ _ _))⟩)));try go_quiet (first | (go_at_call 102;(with_reducible refine (stringslite_Index.calls a0 a1 t439 _ A3.out).mono ?_);rintro e w' ⟨rfl,⟨nd,rfl⟩⟩;(try first | exact ⟨rfl,_,World.drewN_drewN _ _ _⟩ | exact ⟨rfl,_,Eq.trans (World.drewN_drewN _ _ _) (congrArg (World.drewN _) (Nat.add_assoc _ _ _))⟩))))
 go_ret3;exact ⟨bS,bf⟩
def strings_Cut.f (a0:ByteArray) (a1:ByteArray):Option (ByteArray × ByteArray × Bool):=(stringslite_Cut.f a0 a1).bind fun bt440=>(some (bt440.1,bt440.2.1,bt440.2.2))
theorem strings_Cut.calls (a0:ByteArray) (a1:ByteArray) (r1:ByteArray) (r2:ByteArray) (r3:Bool) (w:World) (h:strings_Cut.f a0 a1 = some (r1,r2,r3)) :
  Calls Tryz.prog 73 #[.string a0,.string a1] w fun e w'=>e = .returned (.tuple #[.string r1,.string r2,.bool r3]) ∧ dH w w':=by
 have H:((stringslite_Cut.f a0 a1).bind fun bt440=>(some (bt440.1,bt440.2.1,bt440.2.2))) = some (r1,r2,r3):=h;clear h;replace H:=oB H;obtain ⟨⟨t440,t441,t442⟩,A3,H⟩:=H;try dsimp only at H
 simp only [Option.some.injEq,Prod.mk.injEq] at H;obtain ⟨rfl,rfl,rfl⟩:=H;go_enter Tryz.func73,Tryz.ntmps73;go_wp2_with (first | ((with_reducible refine gC 93 rfl ?_);refine ah (some 9) Tryz.func93 #[.string a0,.string a1] ?_;(with_reducible refine (stringslite_Cut.calls a0 a1 t440 t441 t442 _ A3.out).mono ?_);rintro e w' ⟨rfl,⟨nd,rfl⟩⟩;refine ⟨_,rfl,?_⟩));go_ret3;exact ⟨bS,bf⟩
def stringslite_TrimPrefix.f (a0:ByteArray) (a1:ByteArray):Option (ByteArray):=(stringslite_HasPrefix.f a0 a1).bind fun t443=>(if t443 = true then (if 0 ≤ (a1.size:Int) then (if (a1.size:Int) ≤ (a0.size:Int) then (some (a0.extract ((a1.size:Int):Int).toNat a0.size)) else (none)) else (none)) else (some a0))
theorem stringslite_TrimPrefix.calls (a0:ByteArray) (a1:ByteArray) (r:ByteArray) (w:World) (h:stringslite_TrimPrefix.f a0 a1 = some r) :
  Calls Tryz.prog 94 #[.string a0,.string a1] w fun e w'=>e = .returned (.string r) ∧ dH w w':=by
 have H:((stringslite_HasPrefix.f a0 a1).bind fun t443=>(if t443 = true then (if 0 ≤ (a1.size:Int) then (if (a1.size:Int) ≤ (a0.size:Int) then (some (a0.extract ((a1.size:Int):Int).toNat a0.size)) else (none)) else (none)) else (some a0))) = some r:=h;clear h;replace H:=oB H;obtain ⟨t443,A3,H⟩:=H;try dsimp only at H
 by_cases c4:t443 = true
 ·subst c4;replace H:(if 0 ≤ (a1.size:Int) then (if (a1.size:Int) ≤ (a0.size:Int) then (some (a0.extract ((a1.size:Int):Int).toNat a0.size)) else (none)) else (none)) = some r:=dS;by_cases c5:0 ≤ (a1.size:Int)
  ·rw [if_pos c5] at H;have c5b0:=eq_true c5;have c5b1:=decide_eq_true c5;clear c5;by_cases c6:(a1.size:Int) ≤ (a0.size:Int)
   ·rw [if_pos c6] at H;have c6b0:=eq_true c6;have c6b1:=decide_eq_true c6;clear c6;obtain rfl:=Option.some.inj H;go_enter Tryz.func94,Tryz.ntmps94;go_wp2_with (first | ((with_reducible refine gC 39 rfl ?_);refine ah (some 7) Tryz.func39 #[.string a0,.string a1] ?_;(with_reducible refine (stringslite_HasPrefix.calls a0 a1 true _ A3.out).mono ?_);rintro e w' ⟨rfl,⟨nd,rfl⟩⟩;refine ⟨_,rfl,?_⟩));go_ret;exact ⟨bS,bf⟩
   rw [if_neg c6] at H;exact aB H
  rw [if_neg c5] at H;exact aB H
 replace c4:=Bool.eq_false_iff.mpr c4;subst c4;replace H:(some a0) = some r:=dP;obtain rfl:=Option.some.inj H;go_enter Tryz.func94,Tryz.ntmps94;go_wp2_with (first | ((with_reducible refine gC 39 rfl ?_);refine ah (some 7) Tryz.func39 #[.string a0,.string a1] ?_;(with_reducible refine (stringslite_HasPrefix.calls a0 a1 false _ A3.out).mono ?_);rintro e w' ⟨rfl,⟨nd,rfl⟩⟩;refine ⟨_,rfl,?_⟩));go_ret;exact ⟨bS,bf⟩
def strings_TrimPrefix.f (a0:ByteArray) (a1:ByteArray):Option (ByteArray):=(stringslite_TrimPrefix.f a0 a1).bind fun t444=>(some t444)
theorem strings_TrimPrefix.calls (a0:ByteArray) (a1:ByteArray) (r:ByteArray) (w:World) (h:strings_TrimPrefix.f a0 a1 = some r) :
  Calls Tryz.prog 74 #[.string a0,.string a1] w fun e w'=>e = .returned (.string r) ∧ dH w w':=by
 have H:((stringslite_TrimPrefix.f a0 a1).bind fun t444=>(some t444)) = some r:=h;clear h;replace H:=oB H;obtain ⟨t444,A3,H⟩:=H;replace H:(some t444) = some r:=H;obtain rfl:=Option.some.inj H;go_enter Tryz.func74,Tryz.ntmps74;go_wp2_with (first | ((with_reducible refine gC 94 rfl ?_);refine ah (some 7) Tryz.func94 #[.string a0,.string a1] ?_;(with_reducible refine (stringslite_TrimPrefix.calls a0 a1 t444 _ A3.out).mono ?_);rintro e w' ⟨rfl,⟨nd,rfl⟩⟩;refine ⟨_,rfl,?_⟩));go_ret;exact ⟨bS,bf⟩
def nN.f (a0:Int):Option (Bool):=if a0 ≥ 97 then (if a0 ≤ 122 then (some true) else (if a0 ≥ 65 then (some (decide (a0 ≤ 90))) else (some false))) else (if a0 ≥ 65 then (some (decide (a0 ≤ 90))) else (some false))
theorem nN.calls (a0:Int) (r:Bool) (w:World) (h:nN.f a0 = some r) :
  Calls Tryz.prog 103 #[.int .u8 a0] w fun e w'=>e = .returned (.bool r) ∧ dH w w':=by
 have H:(if a0 ≥ 97 then (if a0 ≤ 122 then (some true) else (if a0 ≥ 65 then (some (decide (a0 ≤ 90))) else (some false))) else (if a0 ≥ 65 then (some (decide (a0 ≤ 90))) else (some false))) = some r:=h;clear h;by_cases c2:a0 ≥ 97
 ·rw [if_pos c2] at H;have c2b0:decide (97 ≤ a0) = true:=decide_eq_true c2;clear c2;by_cases c3:a0 ≤ 122
  ·rw [if_pos c3] at H;have c3b0:=decide_eq_true c3;clear c3;obtain rfl:=Option.some.inj H;go_enter Tryz.func103,Tryz.ntmps103;go_wp2;go_ret;exact ⟨bS,bf⟩
  rw [if_neg c3] at H;have c3b0:=decide_eq_false c3;clear c3;by_cases c4:a0 ≥ 65
  ·rw [if_pos c4] at H;have c4b0:decide (65 ≤ a0) = true:=decide_eq_true c4;clear c4;obtain rfl:=Option.some.inj H;go_enter Tryz.func103,Tryz.ntmps103;go_wp2;go_ret;exact ⟨bS,bf⟩
  rw [if_neg c4] at H;have c4b0:decide (65 ≤ a0) = false:=decide_eq_false c4;clear c4;obtain rfl:=Option.some.inj H;go_enter Tryz.func103,Tryz.ntmps103;go_wp2;go_ret;exact ⟨bS,bf⟩
 rw [if_neg c2] at H;have c2b0:decide (97 ≤ a0) = false:=decide_eq_false c2;clear c2;by_cases c5:a0 ≥ 65
 ·rw [if_pos c5] at H;have c5b0:decide (65 ≤ a0) = true:=decide_eq_true c5;clear c5;obtain rfl:=Option.some.inj H;go_enter Tryz.func103,Tryz.ntmps103;go_wp2;go_ret;exact ⟨bS,bf⟩
 rw [if_neg c5] at H;have c5b0:decide (65 ≤ a0) = false:=decide_eq_false c5;clear c5;obtain rfl:=Option.some.inj H;go_enter Tryz.func103,Tryz.ntmps103;go_wp2;go_ret;exact ⟨bS,bf⟩
def nO.f (a0:Int):Option (Bool):=if a0 ≥ 48 then (some (decide (a0 ≤ 57))) else (some false)
theorem nO.calls (a0:Int) (r:Bool) (w:World) (h:nO.f a0 = some r) :
  Calls Tryz.prog 104 #[.int .u8 a0] w fun e w'=>e = .returned (.bool r) ∧ dH w w':=by
 have H:(if a0 ≥ 48 then (some (decide (a0 ≤ 57))) else (some false)) = some r:=h;clear h;by_cases c2:a0 ≥ 48
 ·rw [if_pos c2] at H;have c2b0:decide (48 ≤ a0) = true:=decide_eq_true c2;clear c2;obtain rfl:=Option.some.inj H;go_enter Tryz.func104,Tryz.ntmps104;go_wp2;go_ret;exact ⟨bS,bf⟩
 rw [if_neg c2] at H;have c2b0:decide (48 ≤ a0) = false:=decide_eq_false c2;clear c2;obtain rfl:=Option.some.inj H;go_enter Tryz.func104,Tryz.ntmps104;go_wp2;go_ret;exact ⟨bS,bf⟩
mutual
def eG.l0:Nat → Int → Int → ByteArray → ByteArray → Option (Bool)
 | 0,_,_,_,_=>none
 | k + 1,x9,x10,x446000,x446001=>if x10 < x9 then (if 0 ≤ x10 then (if x10 < (x446000.size:Int) then ((nN.f (bt x446000 x10)).bind fun t446=>(if t446 = true then (eG.l0 k x9 (wrap64 (x10 + 1)) x446000 x446001) else ((nO.f (bt x446000 x10)).bind fun t447=>(if t447 = true then (eG.l0 k x9 (wrap64 (x10 + 1)) x446000 x446001) else (if (bt x446000 x10) = 45 then (eG.l0 k x9 (wrap64 (x10 + 1)) x446000 x446001) else (some false)))))) else (none)) else (none)) else (eG.l1 k (x446001.size:Int) 0 x446000 x446001)
def eG.l1:Nat → Int → Int → ByteArray → ByteArray → Option (Bool)
 | 0,_,_,_,_=>none
 | k + 1,x32,x33,x446000,x446001=>if x33 < x32 then (if 0 ≤ x33 then (if x33 < (x446001.size:Int) then (if (bt x446001 x33) < 32 then (some false) else (if (bt x446001 x33) = 127 then (some false) else (eG.l1 k x32 (wrap64 (x33 + 1)) x446000 x446001))) else (none)) else (none)) else (if (x446000.size:Int) ≥ 1 then (if (x446000.size:Int) ≤ 30 then (some (decide ((x446001.size:Int) ≤ 120))) else (some false)) else (some false))
end
def eG.f (k:Nat) (a0_0:ByteArray) (a0_1:ByteArray):Option (Bool):=eG.l0 k (a0_0.size:Int) 0 a0_0 a0_1
theorem eG.calls (k:Nat) (a0_0:ByteArray) (a0_1:ByteArray) (r:Bool) (w:World) (h:eG.f k a0_0 a0_1 = some r) :
  Calls Tryz.prog 95 #[.agg #[.string a0_0,.string a0_1]] w fun e w'=>e = .returned (.bool r) ∧ Below w.heap.size w w':=by
 have hu111:=Tryz.underlying111;have HB:=aM (Below.refl w.heap.size w);have H:(eG.l0 k (a0_0.size:Int) 0 a0_0 a0_1) = some r:=h;clear h;have H':=aM H;clear H;go_enter Tryz.func95,Tryz.ntmps95;go_wp2_with (first | ((with_reducible refine bF (N:=1) rfl ?_);(try (refine kQ (by rfl) ?_;dsimp only));refine dW ?hg (N:=1) ?hd (cs:=#[.string a0_0,.string a0_1]) (t:=111) ?hr ?_;(case hd=>rfl);(case hg=>rfl);(case hr=>exact aW);intro gb445 hg w2 hbox hb;have BK445:=aM hbox;have GW445:=aM ((dw:w.heap.size ≤ gb445));have GE445:=aM ((dw:w.heap.size ≤ gb445));replace HB:=aM (au bB hb);clear hb hbox hg;obtain ⟨hcz3_0,hcz3_1,hfz3_0,hfz3_1⟩:=cC2 BK445.out));go_loopg [10] k (fun kq v10 w'=>∃ (x10_1:Int),v10 = .int .i64 x10_1 ∧ ae (eG.l0 kq (a0_0.size:Int) x10_1 a0_0 a0_1 = some r) ∧ ae (kq ≤ k) ∧ ae (w'.heap[gb445]? = some (.cells #[.string a0_0,.string a0_1] 111 (0,0))) ∧ ae (Below w.heap.size w w'))
 case atStart=>exact ⟨(0),bS,H',⟨Nat.le_refl _⟩,⟨bL BK445⟩,⟨bG GE445⟩⟩
 case round =>
  clear H';try clear hcz3_0
  try clear hcz3_1
  try clear hfz3_0
  try clear hfz3_1
  obtain ⟨x10_1,rfl,HA,HK1,BK445,HB⟩:=hrel
  cases gk with
  | zero=>exact absurd HA.out (by simp [eG.l0])
  | succ k1 =>
   have H:=HA.out;clear HA;simp only [eG.l0] at H;have HQ_:=aM H;clear H;obtain ⟨hcz10_0,hcz10_1,hfz10_0,hfz10_1⟩:=cC2 BK445.out;have H:=HQ_.out;clear HQ_;by_cases c4:x10_1 < (a0_0.size:Int)
   ·rw [if_pos c4] at H;have c4b0:=decide_eq_true c4;clear c4;(try simp only [c4b0]);by_cases c5:0 ≤ x10_1
    ·rw [if_pos c5] at H;have c5b0:=decide_eq_true c5;clear c5;by_cases c6:x10_1 < (a0_0.size:Int)
     ·rw [if_pos c6] at H;have c6b0:=decide_eq_true c6;clear c6;replace H:=oB H;obtain ⟨t446,A8,H⟩:=H;try dsimp only at H
      have HQ_:=aM H;clear H;have p7:0 ≤ (x10_1:Int):=pI;have q7:x10_1 < (a0_0.size:Int):=pI;have hx7:=gZ a0_0 x10_1;replace p7:=eq_true p7;replace q7:=eq_true q7;have H:=HQ_.out;clear HQ_;by_cases c9:t446 = true
      ·subst c9;replace H:(eG.l0 k1 (a0_0.size:Int) (wrap64 (x10_1 + 1)) a0_0 a0_1) = some r:=dS;have H':=aM H;clear H;go_wp2_with (first | ((with_reducible refine gC 103 rfl ?_);refine ah (some 18) Tryz.func103 #[.int .u8 (bt a0_0 x10_1)] ?_;(with_reducible refine (nN.calls (bt a0_0 x10_1) true _ A8.out).mono ?_);rintro e w' ⟨rfl,⟨nd,rfl⟩⟩;refine ⟨_,rfl,?_⟩));go_roundg k1
       case measure=>have:=HK1.out;omega
       case rel=>exact ⟨(wrap64 (x10_1 + 1)),bS,H',⟨by have:=HK1.out;omega⟩,⟨bL BK445⟩,⟨bG GE445⟩⟩
      replace c9:=Bool.eq_false_iff.mpr c9;subst c9;replace H:((nO.f (bt a0_0 x10_1)).bind fun t447=>(if t447 = true then (eG.l0 k1 (a0_0.size:Int) (wrap64 (x10_1 + 1)) a0_0 a0_1) else (if (bt a0_0 x10_1) = 45 then (eG.l0 k1 (a0_0.size:Int) (wrap64 (x10_1 + 1)) a0_0 a0_1) else (some false)))) = some r:=dP;replace H:=oB H;obtain ⟨t447,A11,H⟩:=H;try dsimp only at H
      by_cases c12:t447 = true
      ·subst c12;replace H:(eG.l0 k1 (a0_0.size:Int) (wrap64 (x10_1 + 1)) a0_0 a0_1) = some r:=dS;have H':=aM H;clear H;go_wp2_with (first | ((with_reducible refine gC 103 rfl ?_);refine ah (some 18) Tryz.func103 #[.int .u8 (bt a0_0 x10_1)] ?_;(with_reducible refine (nN.calls (bt a0_0 x10_1) false _ A8.out).mono ?_);rintro e w' ⟨rfl,⟨nd,rfl⟩⟩;refine ⟨_,rfl,?_⟩) | (go_at_call 104;(with_reducible refine (nO.calls (bt a0_0 x10_1) true _ A11.out).mono ?_);rintro e w' ⟨rfl,⟨nd,rfl⟩⟩));go_roundg k1
       case measure=>have:=HK1.out;omega
       case rel=>exact ⟨(wrap64 (x10_1 + 1)),bS,H',⟨by have:=HK1.out;omega⟩,⟨bL BK445⟩,⟨bG GE445⟩⟩
      replace c12:=Bool.eq_false_iff.mpr c12;subst c12;replace H:(if (bt a0_0 x10_1) = 45 then (eG.l0 k1 (a0_0.size:Int) (wrap64 (x10_1 + 1)) a0_0 a0_1) else (some false)) = some r:=dP;by_cases c14:(bt a0_0 x10_1) = 45
      ·rw [if_pos c14] at H;have c14b0:((bt a0_0 x10_1) == 45) = true:=beq_iff_eq.mpr c14;have c14b1:((bt a0_0 x10_1) != 45) = false:=bne_eq_false_iff_eq.mpr c14;clear c14;have H':=aM H;clear H;(try simp only [c14b0,c14b1]);go_wp2_with (first | ((with_reducible refine gC 103 rfl ?_);refine ah (some 18) Tryz.func103 #[.int .u8 (bt a0_0 x10_1)] ?_;(with_reducible refine (nN.calls (bt a0_0 x10_1) false _ A8.out).mono ?_);rintro e w' ⟨rfl,⟨nd,rfl⟩⟩;refine ⟨_,rfl,?_⟩) | (go_at_call 104;(with_reducible refine (nO.calls (bt a0_0 x10_1) false _ A11.out).mono ?_);rintro e w' ⟨rfl,⟨nd,rfl⟩⟩));go_roundg k1
       case measure=>have:=HK1.out;omega
       case rel=>exact ⟨(wrap64 (x10_1 + 1)),bS,H',⟨by have:=HK1.out;omega⟩,⟨bL BK445⟩,⟨bG GE445⟩⟩
      rw [if_neg c14] at H;have c14b0:((bt a0_0 x10_1) == 45) = false:=beq_eq_false_iff_ne.mpr c14;have c14b1:((bt a0_0 x10_1) != 45) = true:=bne_iff_ne.mpr c14;obtain rfl:=Option.some.inj H;(try simp only [c14b0,c14b1]);go_wp2_with (first | ((with_reducible refine gC 103 rfl ?_);refine ah (some 18) Tryz.func103 #[.int .u8 (bt a0_0 x10_1)] ?_;(with_reducible refine (nN.calls (bt a0_0 x10_1) false _ A8.out).mono ?_);rintro e w' ⟨rfl,⟨nd,rfl⟩⟩;refine ⟨_,rfl,?_⟩) | (go_at_call 104;(with_reducible refine (nO.calls (bt a0_0 x10_1) false _ A11.out).mono ?_);rintro e w' ⟨rfl,⟨nd,rfl⟩⟩));go_ret;exact ⟨bE,bG GE445⟩
     rw [if_neg c6] at H;exact aB H
    rw [if_neg c5] at H;exact aB H
   rw [if_neg c4] at H;have c4b0:=decide_eq_false c4;clear c4;have H':=aM H;clear H;(try simp only [c4b0]);go_wp2;go_loopg [33] k1 (fun kq v33 w'=>∃ (x33_2:Int),v33 = .int .i64 x33_2 ∧ ae (eG.l1 kq (a0_1.size:Int) x33_2 a0_0 a0_1 = some r) ∧ ae (kq ≤ k1) ∧ ae (w'.heap[gb445]? = some (.cells #[.string a0_0,.string a0_1] 111 (0,0))) ∧ ae (Below w.heap.size w w'))
   case atStart=>exact ⟨(0),bS,H',⟨Nat.le_refl _⟩,⟨bL BK445⟩,⟨bG GE445⟩⟩
   case round =>
    clear H';try clear c4
    try clear c4b0
    try clear hcz10_0
    try clear hcz10_1
    try clear hcz10_0
    try clear hcz10_1
    try clear hcz3_0
    try clear hcz3_1
    try clear hfz10_0
    try clear hfz10_1
    try clear hfz10_0
    try clear hfz10_1
    try clear hfz3_0
    try clear hfz3_1
    obtain ⟨x33_2,rfl,HA,HK2,BK445,HB⟩:=hrel
    cases gk with
    | zero=>exact absurd HA.out (by simp [eG.l1])
    | succ k2 =>
     have H:=HA.out;clear HA;simp only [eG.l1] at H;have HQ_:=aM H;clear H;obtain ⟨hcz23_0,hcz23_1,hfz23_0,hfz23_1⟩:=cC2 BK445.out;have H:=HQ_.out;clear HQ_;by_cases c18:x33_2 < (a0_1.size:Int)
     ·rw [if_pos c18] at H;have c18b0:=decide_eq_true c18;clear c18;(try simp only [c18b0]);by_cases c19:0 ≤ x33_2
      ·rw [if_pos c19] at H;have c19b0:=decide_eq_true c19;clear c19;by_cases c20:x33_2 < (a0_1.size:Int)
       ·rw [if_pos c20] at H;have c20b0:=decide_eq_true c20;clear c20;have HQ_:=aM H;clear H;have p21:0 ≤ (x33_2:Int):=pI;have q21:x33_2 < (a0_1.size:Int):=pI;have hx21:=gZ a0_1 x33_2;replace p21:=eq_true p21;replace q21:=eq_true q21;have H:=HQ_.out;clear HQ_;by_cases c22:(bt a0_1 x33_2) < 32
        ·rw [if_pos c22] at H;have c22b0:=decide_eq_true c22;clear c22;obtain rfl:=Option.some.inj H;(try simp only [c22b0]);go_wp2;go_ret;exact ⟨bE,bG GE445⟩
        rw [if_neg c22] at H;have c22b0:=decide_eq_false c22;clear c22;(try simp only [c22b0]);by_cases c24:(bt a0_1 x33_2) = 127
        ·rw [if_pos c24] at H;have c24b0:((bt a0_1 x33_2) == 127) = true:=beq_iff_eq.mpr c24;have c24b1:((bt a0_1 x33_2) != 127) = false:=bne_eq_false_iff_eq.mpr c24;clear c24;obtain rfl:=Option.some.inj H;(try simp only [c24b0,c24b1]);go_wp2;go_ret;exact ⟨bE,bG GE445⟩
        rw [if_neg c24] at H;have c24b0:((bt a0_1 x33_2) == 127) = false:=beq_eq_false_iff_ne.mpr c24;have c24b1:((bt a0_1 x33_2) != 127) = true:=bne_iff_ne.mpr c24;have H':=aM H;clear H;(try simp only [c24b0,c24b1]);go_wp2;go_roundg k2
        case measure=>have:=HK1.out;have:=HK2.out;omega
        case rel=>exact ⟨(wrap64 (x33_2 + 1)),bS,H',⟨kP HK1.out HK2.out⟩,⟨bL BK445⟩,⟨bG GE445⟩⟩
       rw [if_neg c20] at H;exact aB H
      rw [if_neg c19] at H;exact aB H
     rw [if_neg c18] at H;have c18b0:=decide_eq_false c18;clear c18;(try simp only [c18b0]);by_cases c27:(a0_0.size:Int) ≥ 1
     ·rw [if_pos c27] at H;have c27b0:decide (1 ≤ (a0_0.size:Int)) = true:=decide_eq_true c27;have c27b1:decide (1 ≤ a0_0.size) = true:=decide_eq_true (by omega);clear c27;(try simp only [c27b0,c27b1]);by_cases c28:(a0_0.size:Int) ≤ 30
      ·rw [if_pos c28] at H;have c28b0:=decide_eq_true c28;have c28b1:decide (a0_0.size ≤ 30) = true:=decide_eq_true (by omega);clear c28;obtain rfl:=Option.some.inj H;(try simp only [c28b0,c28b1]);go_wp2;go_ret;exact ⟨bE,bG GE445⟩
      rw [if_neg c28] at H;have c28b0:=decide_eq_false c28;have c28b1:decide (a0_0.size ≤ 30) = false:=decide_eq_false (by omega);clear c28;obtain rfl:=Option.some.inj H;(try simp only [c28b0,c28b1]);go_wp2;go_ret;exact ⟨bE,bG GE445⟩
     rw [if_neg c27] at H;have c27b0:decide (1 ≤ (a0_0.size:Int)) = false:=decide_eq_false c27;have c27b1:decide (1 ≤ a0_0.size) = false:=decide_eq_false (by omega);clear c27;obtain rfl:=Option.some.inj H;(try simp only [c27b0,c27b1]);go_wp2;go_ret;exact ⟨bE,bG GE445⟩
def iG.l0:Nat → List (ag) → Int → Int → Option (Int)
 | 0,_,_,_=>none
 | k + 1,x8,x9,x10=>if x10 < x9 then (if 0 ≤ x10 then (if x10 < (x8.length:Int) then ((eG.f k ((bu x8 x10).f0) ((bu x8 x10).f1)).bind fun t450=>(if t450 = true then (iG.l0 k x8 x9 (wrap64 (x10 + 1))) else (some 5))) else (none)) else (none)) else (some 0)
def iG.f (k:Nat) (l0:List (ag)):Option (Int):=if (l0.length:Int) > 8 then (some 2) else (iG.l0 k l0 (l0.length:Int) 0)
theorem iG.calls (k:Nat) (A0:Option Addr) (c0:Nat) (l0:List (ag)) (r:Int) (w:World) (hr0:Kd.C bJ w A0 l0.length l0) (hc0:l0.length ≤ c0) (h:iG.f k l0 = some r) :
  Calls Tryz.prog 75 #[.slice A0 l0.length c0] w fun e w'=>e = .returned (.int .i64 r) ∧ Below w.heap.size w w':=by
 have hu111:=Tryz.underlying111;have HR0:=aM hr0;have HC0:=aM hc0;clear hr0 hc0;have HB:=aM (Below.refl w.heap.size w);have H:(if (l0.length:Int) > 8 then (some 2) else (iG.l0 k l0 (l0.length:Int) 0)) = some r:=h;clear h;by_cases c2:(l0.length:Int) > 8
 ·rw [if_pos c2] at H;have c2b0:decide (8 < (l0.length:Int)) = true:=decide_eq_true c2;have c2b1:decide (8 < l0.length) = true:=decide_eq_true (by omega);clear c2;obtain rfl:=Option.some.inj H;go_enter Tryz.func75,Tryz.ntmps75;go_wp2;go_ret;exact ⟨bE,bB⟩
 rw [if_neg c2] at H;have c2b0:decide (8 < (l0.length:Int)) = false:=decide_eq_false c2;have c2b1:decide (8 < l0.length) = false:=decide_eq_false (by omega);clear c2;have H':=aM H;clear H;go_enter Tryz.func75,Tryz.ntmps75;go_wp2;go_loopg [10] k (fun kq v10 w'=>∃ (x10_1:Int),v10 = .int .i64 x10_1 ∧ ae (iG.l0 kq l0 (l0.length:Int) x10_1 = some r) ∧ ae (kq ≤ k) ∧ ae (Below w.heap.size w w'))
 case atStart=>exact ⟨(0),bS,H',⟨Nat.le_refl _⟩,⟨bB⟩⟩
 case round =>
  clear H';try clear c2
  try clear c2b0
  try clear c2b1
  obtain ⟨x10_1,rfl,HA,HK1,HB⟩:=hrel
  cases gk with
  | zero=>exact absurd HA.out (by simp [iG.l0])
  | succ k1 =>
   have H:=HA.out;clear HA;simp only [iG.l0] at H;by_cases c3:x10_1 < (l0.length:Int)
   ·rw [if_pos c3] at H;have c3b0:=decide_eq_true c3;clear c3;by_cases c4:0 ≤ x10_1
    ·rw [if_pos c4] at H;have c4b0:=decide_eq_true c4;clear c4;by_cases c5:x10_1 < (l0.length:Int)
     ·rw [if_pos c5] at H;have c5b0:=decide_eq_true c5;clear c5;replace H:=oB H;obtain ⟨t450,A6,H⟩:=H;try dsimp only at H
      by_cases c7:t450 = true
      ·subst c7;replace H:(iG.l0 k1 l0 (l0.length:Int) (wrap64 (x10_1 + 1))) = some r:=dS;have H':=aM H;clear H;have p448:0 ≤ (x10_1:Int):=pI;have q448:x10_1 < (l0.length:Int):=pI;obtain ⟨ad448,e448,hx448_0,hx448_1⟩:=jW HR0.out x10_1 p448 q448;cases e448;replace hx448_0:=(HB.out.cell (World.block_lt_of_cell? w _ hx448_0)).trans hx448_0;replace hx448_1:=(HB.out.cell (World.block_lt_of_cell? w _ hx448_1)).trans hx448_1;replace p448:=eq_true p448;replace q448:=eq_true q448;go_wp2_with (first | ((with_reducible refine bF (N:=4) rfl ?_);refine dW ?hg (N:=4) ?hd (cs:=#[.string (⟨#[]⟩ : ByteArray),.string (⟨#[]⟩ : ByteArray)]) (t:=111) ?hr ?_;(case hd=>rfl);(case hg=>rfl);(case hr=>exact aW);intro gb449 hg w8 hbox hb;have BK449:=aM hbox;have GW449:=aM ((dw:w.heap.size ≤ gb449));have GE449:=aM ((dw:w.heap.size ≤ gb449));replace HB:=aM (au bB hb);clear hb hbox hg;obtain ⟨hcz9_0,hcz9_1,hfz9_0,hfz9_1⟩:=cC2 BK449.out) | ((with_reducible refine gC 95 rfl ?_);refine ah (some 15) Tryz.func95 #[.agg #[.string ((bu l0 x10_1).f0),.string ((bu l0 x10_1).f1)]] ?_;(with_reducible refine (eG.calls k1 ((bu l0 x10_1).f0) ((bu l0 x10_1).f1) true _ A6.out).mono ?_);rintro e w10 ⟨rfl,hb⟩;refine ⟨_,rfl,?_⟩;replace BK449:=aM (fE (g:=gb449) (o:=.cells #[.string ((bu l0 x10_1).f0),.string ((bu l0 x10_1).f1)] 111 (0,0)) (uG BK449.out) hb);replace HB:=aM (au (bG GE449) hb);(try clear hi)));go_roundg k1
       case measure=>have:=HK1.out;omega
       case rel=>exact ⟨(wrap64 (x10_1 + 1)),bS,H',⟨by have:=HK1.out;omega⟩,⟨bG GE449⟩⟩
      replace c7:=Bool.eq_false_iff.mpr c7;subst c7;replace H:(some 5) = some r:=dP;obtain rfl:=Option.some.inj H;have p448:0 ≤ (x10_1:Int):=pI;have q448:x10_1 < (l0.length:Int):=pI;obtain ⟨ad448,e448,hx448_0,hx448_1⟩:=jW HR0.out x10_1 p448 q448;cases e448;replace hx448_0:=(HB.out.cell (World.block_lt_of_cell? w _ hx448_0)).trans hx448_0;replace hx448_1:=(HB.out.cell (World.block_lt_of_cell? w _ hx448_1)).trans hx448_1;replace p448:=eq_true p448;replace q448:=eq_true q448;go_wp2_with (first | ((with_reducible refine bF (N:=4) rfl ?_);refine dW ?hg (N:=4) ?hd (cs:=#[.string (⟨#[]⟩ : ByteArray),.string (⟨#[]⟩ : ByteArray)]) (t:=111) ?hr ?_;(case hd=>rfl);(case hg=>rfl);(case hr=>exact aW);intro gb449 hg w11 hbox hb;have BK449:=aM hbox;have GW449:=aM ((dw:w.heap.size ≤ gb449));have GE449:=aM ((dw:w.heap.size ≤ gb449));replace HB:=aM (au bB hb);clear hb hbox hg;obtain ⟨hcz12_0,hcz12_1,hfz12_0,hfz12_1⟩:=cC2 BK449.out) | ((with_reducible refine gC 95 rfl ?_);refine ah (some 15) Tryz.func95 #[.agg #[.string ((bu l0 x10_1).f0),.string ((bu l0 x10_1).f1)]] ?_;(with_reducible refine (eG.calls k1 ((bu l0 x10_1).f0) ((bu l0 x10_1).f1) false _ A6.out).mono ?_);rintro e w13 ⟨rfl,hb⟩;refine ⟨_,rfl,?_⟩;replace BK449:=aM (fE (g:=gb449) (o:=.cells #[.string ((bu l0 x10_1).f0),.string ((bu l0 x10_1).f1)] 111 (0,0)) (uG BK449.out) hb);replace HB:=aM (au (bG GE449) hb);(try clear hi)));go_ret;exact ⟨bE,bG GE449⟩
     rw [if_neg c5] at H;exact aB H
    rw [if_neg c4] at H;exact aB H
   rw [if_neg c3] at H;have c3b0:=decide_eq_false c3;clear c3;obtain rfl:=Option.some.inj H;go_wp2;go_ret;exact ⟨bE,bB⟩
mutual
def dV.l0:Nat → List Int → List (ag) → Int → Option ((List (ag)) × Int × Bool)
 | 0,_,_,_=>none
 | k + 1,x0,x5,x6=>if x6 < (x0.length:Int) then (if 0 ≤ x6 then (if x6 ≤ (x0.length:Int) then ((bytes_IndexByte.f (x0.drop (x6:Int).toNat) 10).bind fun t456=>(if t456 < 0 then (dV.j1 k x0 x5 x6 (wrap64 ((x0.length:Int) - x6)) (x0.length:Int)) else (dV.j1 k x0 x5 x6 t456 (wrap64 ((wrap64 (x6 + t456)) + 1))))) else (none)) else (none)) else ((iG.f k x5).bind fun t454=>(some (x5,x6,(t454 == 0))))
def dV.j1:Nat → List Int → List (ag) → Int → Int → Int → Option ((List (ag)) × Int × Bool)
 | 0,_,_,_,_,_=>none
 | k + 1,x0,x5,x6,x7,x8=>if 0 ≤ x6 then (if x6 ≤ (wrap64 (x6 + x7)) then (if (wrap64 (x6 + x7)) ≤ (x0.length:Int) then (if (strOfNums ((x0.take ((wrap64 (x6 + x7)):Int).toNat).drop (x6:Int).toNat)).toList = ([]:List UInt8) then ((iG.f k x5).bind fun t458=>(some (x5,x8,(t458 == 0)))) else (if 0 < ((strOfNums ((x0.take ((wrap64 (x6 + x7)):Int).toNat).drop (x6:Int).toNat)).size:Int) then ((mY.f (bt (strOfNums ((x0.take ((wrap64 (x6 + x7)):Int).toNat).drop (x6:Int).toNat)) 0)).bind fun t459=>(if t459 = true then (if (x5.length:Int) = 0 then (some (([]:List (ag)),0,false)) else (if 0 ≤ (wrap64 ((x5.length:Int) - 1)) then (if (wrap64 ((x5.length:Int) - 1)) < (x5.length:Int) then (if ((bu x5 (wrap64 ((x5.length:Int) - 1))).f1).size + (strOfNums ((x0.take ((wrap64 (x6 + x7)):Int).toNat).drop (x6:Int).toNat)).size ≤ 9223372036854775807 then (dV.l0 k x0 (x5.set ((wrap64 ((x5.length:Int) - 1)):Int).toNat (⟨(bu x5 (wrap64 ((x5.length:Int) - 1))).f0,((bu x5 (wrap64 ((x5.length:Int) - 1))).f1) ++ (strOfNums ((x0.take ((wrap64 (x6 + x7)):Int).toNat).drop (x6:Int).toNat))⟩ : ag)) x8) else (none)) else (none)) else (none))) else ((strings_Cut.f (strOfNums ((x0.take ((wrap64 (x6 + x7)):Int).toNat).drop (x6:Int).toNat)) (⟨#[58]⟩ : ByteArray)).bind fun bt462=>(if bt462.2.2 = true then ((strings_TrimPrefix.f bt462.2.1 (⟨#[32]⟩ : ByteArray)).bind fun t465=>(if x5.length < 4398046511104 then (dV.l0 k x0 (x5 ++ [(⟨bt462.1,t465⟩ : ag)]) x8) else (none))) else (some (([]:List (ag)),0,false)))))) else (none))) else (none)) else (none)) else (none)
end
def dV.f (k:Nat) (l0:List Int):Option ((List (ag)) × Int × Bool):=dV.l0 k l0 (([]:List (ag))) 0
theorem dV.calls (k:Nat) (A0:Option Addr) (c0:Nat) (l0:List Int) (r1:List (ag)) (r2:Int) (r3:Bool) (w:World) (hr0:Kd.C (Kd.int .u8) w A0 l0.length l0) (hc0:l0.length ≤ c0) (h:dV.f k l0 = some (r1,r2,r3)) :
  Calls Tryz.prog 48 #[.slice A0 l0.length c0] w fun e w'=>∃ v0_:Value,e = .returned (.tuple #[v0_,.int .i64 r2,.bool r3]) ∧ Kd.R bJ 111 w' w.heap.size (fun _=>True) v0_ r1 ∧ Below w.heap.size w w':=by
 have hu111:=Tryz.underlying111;have HR0:=aM hr0;have HC0:=aM hc0;clear hr0 hc0;have HB:=aM (Below.refl w.heap.size w);have H:(dV.l0 k l0 (([]:List (ag))) 0) = some (r1,r2,r3):=h;clear h;obtain ⟨y451,hy451⟩ : ∃ y_:List (ag),y_ = (([]:List (ag))):=⟨_,rfl⟩;replace H:(dV.l0 k l0 y451 0) = some (r1,r2,r3):=bg hy451;have Ny451:=aM hy451;clear hy451;have H':=aM H;clear H;go_enter Tryz.func48,Tryz.ntmps48;go_wp2_with (first | ((with_reducible refine bF (N:=13) rfl ?_);refine Kd.fG bJ _ 111 ?hg (N:=13) ?hd (xs:=([]:List (ag))) (inner:=[]) (ok:=fun _=>True) (okp:=fun _=>True) ?hr ?hp (fun _ hk=>hk) trivial (Below.refl _ _) (Nat.le_refl _) (by simp) ?_;(case hd=>rfl);(case hg=>rfl);(case hr=>exact aW);(case hp=>exact (ax.none _ _));intro v452 w2 ho3 hb hg_ hnew_;clear hg_ hnew_;(first | rw [← Ny451.out] at ho3 | (simp only [Int.reduceToNat] at ho3;rw [← Ny451.out] at ho3));have HO453:=aM (Kd.aQ ho3 (aJ bB));replace HB:=aM (au bB hb);clear hb ho3));go_loopg [5,6] k (fun kq v5 v6 w'=>∃ (x5_1:List (ag)) (x6_1:Int),v6 = .int .i64 x6_1 ∧ ae (dV.l0 kq l0 x5_1 x6_1 = some (r1,r2,r3)) ∧ ae (kq ≤ k) ∧ ae (Kd.R bJ 111 w' w.heap.size (fun _=>True) v5 x5_1) ∧ ae (Below w.heap.size w w'))
 case atStart=>exact ⟨(y451),(0),bS,H',⟨Nat.le_refl _⟩,⟨bR HO453⟩,⟨bB⟩⟩
 case round =>
  clear H';obtain ⟨x5_1,x6_1,rfl,HA,HK1,HO_5,HB⟩:=hrel
  cases gk with
  | zero=>exact absurd HA.out (by simp [dV.l0])
  | succ k1 =>
   have H:=HA.out;clear HA;simp only [dV.l0] at H;by_cases c4:x6_1 < (l0.length:Int)
   ·rw [if_pos c4] at H;have c4b0:=decide_eq_true c4;clear c4;by_cases c5:0 ≤ x6_1
    ·rw [if_pos c5] at H;have c5b0:=eq_true c5;have c5b1:=decide_eq_true c5;clear c5;by_cases c6:x6_1 ≤ (l0.length:Int)
     ·rw [if_pos c6] at H;have c6b0:=eq_true c6;have c6b1:=decide_eq_true c6;(try have c6z:=eq_true (show (x6_1:Int) ≤ (c0:Int) from (by have h_:=HC0.out;omega)));clear c6;replace H:=oB H;obtain ⟨t456,A7,H⟩:=H;try dsimp only at H
      have HC8:=aM H;clear H;obtain ⟨i09,hi09,_,hsz9,_⟩:=info_parts info5;obtain ⟨A9,hcut9,hA9,hC9⟩:=Gw (P:=Tryz.prog) (Value.int .u8) 0 22 5 .i64 Tryz.underlying22 hi09 hsz9 A0 c0 l0 x6_1 (pI) (pI) HC0.out;have HR455:=aM (Kd.iQ (h1:=fun _=>rfl) (hA9 _ (Kd.iF HR0.out)));have HC455:=aM hC9;clear hA9 hC9 hi09 hsz9;go_upto_if 27 with (first | ((with_reducible refine gC 71 rfl ?_);refine ou (some 21) rfl rfl Tryz.func71 (by kernel_rfl) rfl #[.slice A9 (l0.drop (x6_1:Int).toNat).length (c0 - x6_1.toNat),.int .u8 10] rfl (by (try simp only [List.map_toArray,List.map_cons,List.map_nil]);first | done | (rw [show (l0.drop (x6_1:Int).toNat).length = (l0.length - x6_1.toNat) from List.length_drop] <;> rfl) | rfl | (simp only [List.length_drop,List.length_take];rfl)) ?_;(with_reducible refine (bytes_IndexByte.calls _ _ (l0.drop (x6_1:Int).toNat) 10 t456 _ ?side1 ?side2 A7.out).mono ?_);(case side1=>exact eY HR455.out);(case side2=>exact HC455.out);rintro e w' ⟨rfl,⟨nd,rfl⟩⟩;refine ⟨_,rfl,?_⟩));(try simp only [Act.put,List.setIfInBounds_toArray,List.set_cons_zero,List.set_cons_succ]);go_cut [7,8] (fun v7 v8 wc=>∃ (kq:Nat) (x7_7:Int) (x8_7:Int),v7 = .int .i64 x7_7 ∧ v8 = .int .i64 x8_7 ∧ ae (dV.j1 kq l0 x5_1 x6_1 x7_7 x8_7 = some (r1,r2,r3)) ∧ ae (kq ≤ k1) ∧ ae (Kd.R bJ 111 wc w.heap.size (fun _=>True) u5 x5_1) ∧ ae (Below w.heap.size w wc))
      case first =>
       have H:=HC8.out;clear HC8;by_cases c10:t456 < 0
       ·rw [if_pos c10] at H;have c10b0:=decide_eq_true c10;clear c10;(first | rw [c10b0] | (simp only [bV,dh];rw [c10b0]) | skip);have H':=aM H;clear H;go_wp2;go_meet
        case rel=>exact ⟨_,(wrap64 ((l0.length:Int) - x6_1)),((l0.length:Int)),bS,bS,H',⟨gW HK1.out⟩,⟨bR HO_5⟩,⟨bB⟩⟩
       rw [if_neg c10] at H;have c10b0:=decide_eq_false c10;clear c10;(first | rw [c10b0] | (simp only [bV,dh];rw [c10b0]) | skip);have H':=aM H;clear H;go_wp2;go_meet
       case rel=>exact ⟨_,(t456),(wrap64 ((wrap64 (x6_1 + t456)) + 1)),bS,bS,H',⟨gW HK1.out⟩,⟨bR HO_5⟩,⟨bB⟩⟩
      case rest =>
       clear HC8;try clear c4
       try clear c4b0
       try clear c5
       try clear c5b0
       try clear c5b1
       try clear c6
       try clear c6b0
       try clear c6b1
       obtain ⟨kq,x7_7,x8_7,rfl,rfl,HA,HJ7,HO_5,HB⟩:=hcut
       cases kq with
       | zero=>exact absurd HA.out (by simp [dV.j1])
       | succ kj7 =>
        have H:=HA.out;clear HA;simp only [dV.j1] at H;by_cases c11:0 ≤ x6_1
        ·rw [if_pos c11] at H;have c11b0:=eq_true c11;have c11b1:=decide_eq_true c11;clear c11;by_cases c12:x6_1 ≤ (wrap64 (x6_1 + x7_7))
         ·rw [if_pos c12] at H;have c12b0:=eq_true c12;have c12b1:=decide_eq_true c12;by_cases c13:(wrap64 (x6_1 + x7_7)) ≤ (l0.length:Int)
          ·rw [if_pos c13] at H;have c13b0:=eq_true c13;have c13b1:=decide_eq_true c13;by_cases c14:(strOfNums ((l0.take ((wrap64 (x6_1 + x7_7)):Int).toNat).drop (x6_1:Int).toNat)).toList = ([]:List UInt8)
           ·rw [if_pos c14] at H;have c14b0:((strOfNums ((l0.take ((wrap64 (x6_1 + x7_7)):Int).toNat).drop (x6_1:Int).toNat)).toList == ([]:List UInt8)) = true:=beq_iff_eq.mpr c14;have c14b1:((strOfNums ((l0.take ((wrap64 (x6_1 + x7_7)):Int).toNat).drop (x6_1:Int).toNat)).toList != ([]:List UInt8)) = false:=bne_eq_false_iff_eq.mpr c14;clear c14;replace H:=oB H;obtain ⟨t458,A15,H⟩:=H;try dsimp only at H
            simp only [Option.some.injEq,Prod.mk.injEq] at H;obtain ⟨rfl,rfl,rfl⟩:=H;obtain ⟨i016,hi016,_,hsz16,_⟩:=info_parts info5;obtain ⟨A16,hcut16,hA16,hC16⟩:=jr (P:=Tryz.prog) (Value.int .u8) 0 22 5 .i64 .i64 Tryz.underlying22 hi016 hsz16 A0 c0 l0 x6_1 (wrap64 (x6_1 + x7_7)) (pI) (by first | omega | exact pI) (pI) HC0.out;have HR457:=aM (Kd.iQ (h1:=fun _=>rfl) (hA16 _ (Kd.iF HR0.out)));have HC457:=aM hC16;clear hA16 hC16 hi016 hsz16;have hcv17:=Kd.eX (P:=Tryz.prog) (A:=A16) (c:=(c0 - x6_1.toNat)) Tryz.underlying22 Tryz.underlying5 Tryz.underlying9 (Kd.fF HR457.out HB.out);(try have hcd18:=fun nq_:Nat=>Kd.eX (P:=Tryz.prog) (A:=A16) (c:=(c0 - x6_1.toNat)) Tryz.underlying22 Tryz.underlying5 Tryz.underlying9 (Kd.iw (Kd.fF HR457.out HB.out) nq_));(try have hce18:=Kd.eX (P:=Tryz.prog) (A:=A16) (c:=(c0 - x6_1.toNat)) Tryz.underlying22 Tryz.underlying5 Tryz.underlying9 (Kd.fF HR457.out HB.out));(try (have hln18:((l0.take ((wrap64 (x6_1 + x7_7)):Int).toNat).drop (x6_1:Int).toNat).length = ((wrap64 (x6_1 + x7_7)):Int).toNat - (x6_1:Int).toNat:=rG));(try rw [hln18] at hce18);(try simp only [hln18] at hcd18);(try clear hln18);obtain ⟨Ao19,co19,eo19⟩:=Kd.bn HO_5.out;subst eo19;go_wp2_with (first | ((with_reducible refine gC 75 rfl ?_);refine ah (some 79) Tryz.func75 #[.slice Ao19 x5_1.length co19] ?_;(with_reducible refine (iG.calls kj7 _ _ x5_1 t458 _ ?side1 ?side2 A15.out).mono ?_);(case side1=>exact dO HO_5.out);(case side2=>exact (Kd.aV HO_5.out).2.1);rintro e w20 ⟨rfl,hb⟩;refine ⟨_,rfl,?_⟩;replace HO_5:=aM (Kd.aY (bR HO_5) hb);replace HB:=aM (au bB hb);(try clear hi)));go_ret3;exact ⟨_,bE,bR HO_5,bB⟩
           rw [if_neg c14] at H;have c14b0:((strOfNums ((l0.take ((wrap64 (x6_1 + x7_7)):Int).toNat).drop (x6_1:Int).toNat)).toList == ([]:List UInt8)) = false:=beq_eq_false_iff_ne.mpr c14;have c14b1:((strOfNums ((l0.take ((wrap64 (x6_1 + x7_7)):Int).toNat).drop (x6_1:Int).toNat)).toList != ([]:List UInt8)) = true:=bne_iff_ne.mpr c14;by_cases c21:0 < ((strOfNums ((l0.take ((wrap64 (x6_1 + x7_7)):Int).toNat).drop (x6_1:Int).toNat)).size:Int)
           ·rw [if_pos c21] at H;have c21b0:=decide_eq_true c21;have c21b1:decide (0 < (strOfNums ((l0.take ((wrap64 (x6_1 + x7_7)):Int).toNat).drop (x6_1:Int).toNat)).size) = true:=decide_eq_true (by omega);clear c21;replace H:=oB H;obtain ⟨t459,A23,H⟩:=H;try dsimp only at H
            by_cases c24:t459 = true
            ·subst c24;replace H:(if (x5_1.length:Int) = 0 then (some (([]:List (ag)),0,false)) else (if 0 ≤ (wrap64 ((x5_1.length:Int) - 1)) then (if (wrap64 ((x5_1.length:Int) - 1)) < (x5_1.length:Int) then (if ((bu x5_1 (wrap64 ((x5_1.length:Int) - 1))).f1).size + (strOfNums ((l0.take ((wrap64 (x6_1 + x7_7)):Int).toNat).drop (x6_1:Int).toNat)).size ≤ 9223372036854775807 then (dV.l0 kj7 l0 (x5_1.set ((wrap64 ((x5_1.length:Int) - 1)):Int).toNat (⟨(bu x5_1 (wrap64 ((x5_1.length:Int) - 1))).f0,((bu x5_1 (wrap64 ((x5_1.length:Int) - 1))).f1) ++ (strOfNums ((l0.take ((wrap64 (x6_1 + x7_7)):Int).toNat).drop (x6_1:Int).toNat))⟩ : ag)) x8_7) else (none)) else (none)) else (none))) = some (r1,r2,r3):=dS;by_cases c25:(x5_1.length:Int) = 0
             ·rw [if_pos c25] at H;have c25b0:((x5_1.length:Int) == 0) = true:=beq_iff_eq.mpr c25;have c25b1:((x5_1.length:Int) != 0) = false:=bne_eq_false_iff_eq.mpr c25;clear c25;simp only [Option.some.injEq,Prod.mk.injEq] at H;obtain ⟨rfl,rfl,rfl⟩:=H;obtain ⟨i026,hi026,_,hsz26,_⟩:=info_parts info5;obtain ⟨A26,hcut26,hA26,hC26⟩:=jr (P:=Tryz.prog) (Value.int .u8) 0 22 5 .i64 .i64 Tryz.underlying22 hi026 hsz26 A0 c0 l0 x6_1 (wrap64 (x6_1 + x7_7)) (pI) (by first | omega | exact pI) (pI) HC0.out;have HR457:=aM (Kd.iQ (h1:=fun _=>rfl) (hA26 _ (Kd.iF HR0.out)));have HC457:=aM hC26;clear hA26 hC26 hi026 hsz26;have hcv27:=Kd.eX (P:=Tryz.prog) (A:=A26) (c:=(c0 - x6_1.toNat)) Tryz.underlying22 Tryz.underlying5 Tryz.underlying9 (Kd.fF HR457.out HB.out);(try have hcd28:=fun nq_:Nat=>Kd.eX (P:=Tryz.prog) (A:=A26) (c:=(c0 - x6_1.toNat)) Tryz.underlying22 Tryz.underlying5 Tryz.underlying9 (Kd.iw (Kd.fF HR457.out HB.out) nq_));(try have hce28:=Kd.eX (P:=Tryz.prog) (A:=A26) (c:=(c0 - x6_1.toNat)) Tryz.underlying22 Tryz.underlying5 Tryz.underlying9 (Kd.fF HR457.out HB.out));(try (have hln28:((l0.take ((wrap64 (x6_1 + x7_7)):Int).toNat).drop (x6_1:Int).toNat).length = ((wrap64 (x6_1 + x7_7)):Int).toNat - (x6_1:Int).toNat:=rG));(try rw [hln28] at hce28);(try simp only [hln28] at hcd28);(try clear hln28);have p22:0 ≤ (0:Int):=(by omega);have q22:0 < (strOfNums ((l0.take ((wrap64 (x6_1 + x7_7)):Int).toNat).drop (x6_1:Int).toNat)).size:=tV;have hx22:∀ h:0 < (strOfNums ((l0.take ((wrap64 (x6_1 + x7_7)):Int).toNat).drop (x6_1:Int).toNat)).size,(((strOfNums ((l0.take ((wrap64 (x6_1 + x7_7)):Int).toNat).drop (x6_1:Int).toNat))[0]'h).toNat:Int) = bt (strOfNums ((l0.take ((wrap64 (x6_1 + x7_7)):Int).toNat).drop (x6_1:Int).toNat)) 0:=gZ (strOfNums ((l0.take ((wrap64 (x6_1 + x7_7)):Int).toNat).drop (x6_1:Int).toNat)) 0;clear p22;have qi22:(0 < ((strOfNums ((l0.take ((wrap64 (x6_1 + x7_7)):Int).toNat).drop (x6_1:Int).toNat)).size:Int)) = True:=eq_true (pI);replace q22:=eq_true q22;go_wp2_with (first | ((with_reducible refine gC 72 rfl ?_);refine ah (some 46) Tryz.func72 #[.int .u8 (bt (strOfNums ((l0.take ((wrap64 (x6_1 + x7_7)):Int).toNat).drop (x6_1:Int).toNat)) 0)] ?_;(with_reducible refine (mY.calls (bt (strOfNums ((l0.take ((wrap64 (x6_1 + x7_7)):Int).toNat).drop (x6_1:Int).toNat)) 0) true _ A23.out).mono ?_);rintro e w' ⟨rfl,⟨nd,rfl⟩⟩;refine ⟨_,rfl,?_⟩;obtain ⟨Ao29,co29,eo29⟩:=Kd.bn HO_5.out;subst eo29));go_ret3;exact ⟨_,bE,kZ,bB⟩
             rw [if_neg c25] at H;have c25b0:((x5_1.length:Int) == 0) = false:=beq_eq_false_iff_ne.mpr c25;have c25b1:((x5_1.length:Int) != 0) = true:=bne_iff_ne.mpr c25;have c25b2:¬ (x5_1 = []):=fun h_=>c25 (by rw [h_];rfl)
             obtain ⟨ji30,hji30⟩ : ∃ j_:Int,(wrap64 ((x5_1.length:Int) - 1)) = j_:=⟨_,rfl⟩;replace H:(if 0 ≤ (ji30) then (if (ji30) < (x5_1.length:Int) then (if ((bu x5_1 (ji30)).f1).size + (strOfNums ((l0.take ((wrap64 (x6_1 + x7_7)):Int).toNat).drop (x6_1:Int).toNat)).size ≤ 9223372036854775807 then (dV.l0 kj7 l0 (x5_1.set ((ji30):Int).toNat (⟨(bu x5_1 (ji30)).f0,((bu x5_1 (ji30)).f1) ++ (strOfNums ((l0.take ((wrap64 (x6_1 + x7_7)):Int).toNat).drop (x6_1:Int).toNat))⟩ : ag)) x8_7) else (none)) else (none)) else (none)) = some (r1,r2,r3):=by first | (rw [hji30] at H;exact H) | (simp only [hji30] at H ⊢;exact H)
             (try rw [hji30] at A23);have hji30w:(IntKind.i64.wrap ((x5_1.length:Int) - 1)) = ji30:=(bV _).trans hji30;by_cases c31:0 ≤ (ji30)
             ·rw [if_pos c31] at H;have c31b0:=decide_eq_true c31;clear c31;by_cases c32:(ji30) < (x5_1.length:Int)
              ·rw [if_pos c32] at H;have c32b0:=decide_eq_true c32;clear c32;by_cases c33:((bu x5_1 (ji30)).f1).size + (strOfNums ((l0.take ((wrap64 (x6_1 + x7_7)):Int).toNat).drop (x6_1:Int).toNat)).size ≤ 9223372036854775807
               ·rw [if_pos c33] at H;have c33b0:=eq_true c33;have c33b1:=decide_eq_true c33;try have c33b2:(9223372036854775807 < ((bu x5_1 (ji30)).f1).size + (strOfNums ((l0.take ((wrap64 (x6_1 + x7_7)):Int).toNat).drop (x6_1:Int).toNat)).size) = False:=eq_false (Nat.not_lt.2 c33)
                obtain ⟨y461,hy461⟩ : ∃ y_:List (ag),y_ = (x5_1.set ((ji30):Int).toNat (⟨(bu x5_1 (ji30)).f0,((bu x5_1 (ji30)).f1) ++ (strOfNums ((l0.take ((wrap64 (x6_1 + x7_7)):Int).toNat).drop (x6_1:Int).toNat))⟩ : ag)):=⟨_,rfl⟩;replace H:(dV.l0 kj7 l0 y461 x8_7) = some (r1,r2,r3):=bg hy461;have Ny461:=aM hy461;clear hy461;have H':=aM H;clear H;obtain ⟨i035,hi035,_,hsz35,_⟩:=info_parts info5;obtain ⟨A35,hcut35,hA35,hC35⟩:=jr (P:=Tryz.prog) (Value.int .u8) 0 22 5 .i64 .i64 Tryz.underlying22 hi035 hsz35 A0 c0 l0 x6_1 (wrap64 (x6_1 + x7_7)) (pI) (by first | omega | exact pI) (pI) HC0.out;have HR457:=aM (Kd.iQ (h1:=fun _=>rfl) (hA35 _ (Kd.iF HR0.out)));have HC457:=aM hC35;clear hA35 hC35 hi035 hsz35;have hcv36:=Kd.eX (P:=Tryz.prog) (A:=A35) (c:=(c0 - x6_1.toNat)) Tryz.underlying22 Tryz.underlying5 Tryz.underlying9 (Kd.fF HR457.out HB.out);(try have hcd37:=fun nq_:Nat=>Kd.eX (P:=Tryz.prog) (A:=A35) (c:=(c0 - x6_1.toNat)) Tryz.underlying22 Tryz.underlying5 Tryz.underlying9 (Kd.iw (Kd.fF HR457.out HB.out) nq_));(try have hce37:=Kd.eX (P:=Tryz.prog) (A:=A35) (c:=(c0 - x6_1.toNat)) Tryz.underlying22 Tryz.underlying5 Tryz.underlying9 (Kd.fF HR457.out HB.out));(try (have hln37:((l0.take ((wrap64 (x6_1 + x7_7)):Int).toNat).drop (x6_1:Int).toNat).length = ((wrap64 (x6_1 + x7_7)):Int).toNat - (x6_1:Int).toNat:=rG));(try rw [hln37] at hce37);(try simp only [hln37] at hcd37);(try clear hln37);have p22:0 ≤ (0:Int):=(by omega);have q22:0 < (strOfNums ((l0.take ((wrap64 (x6_1 + x7_7)):Int).toNat).drop (x6_1:Int).toNat)).size:=tV;have hx22:∀ h:0 < (strOfNums ((l0.take ((wrap64 (x6_1 + x7_7)):Int).toNat).drop (x6_1:Int).toNat)).size,(((strOfNums ((l0.take ((wrap64 (x6_1 + x7_7)):Int).toNat).drop (x6_1:Int).toNat))[0]'h).toNat:Int) = bt (strOfNums ((l0.take ((wrap64 (x6_1 + x7_7)):Int).toNat).drop (x6_1:Int).toNat)) 0:=gZ (strOfNums ((l0.take ((wrap64 (x6_1 + x7_7)):Int).toNat).drop (x6_1:Int).toNat)) 0;clear p22;have qi22:(0 < ((strOfNums ((l0.take ((wrap64 (x6_1 + x7_7)):Int).toNat).drop (x6_1:Int).toNat)).size:Int)) = True:=eq_true (pI);replace q22:=eq_true q22;go_wp2_with (first | ((with_reducible refine gC 72 rfl ?_);refine ah (some 46) Tryz.func72 #[.int .u8 (bt (strOfNums ((l0.take ((wrap64 (x6_1 + x7_7)):Int).toNat).drop (x6_1:Int).toNat)) 0)] ?_;(with_reducible refine (mY.calls (bt (strOfNums ((l0.take ((wrap64 (x6_1 + x7_7)):Int).toNat).drop (x6_1:Int).toNat)) 0) true _ A23.out).mono ?_);rintro e w' ⟨rfl,⟨nd,rfl⟩⟩;refine ⟨_,rfl,?_⟩;(try (rw [iq wc];generalize hq_:World.drewN wc _ = wc;have n0_:ae (Kd.R bJ 111 wc w.heap.size (fun _=>True) u5 x5_1):=⟨by rw [← hq_];exact (bR HO_5)⟩;have n1_:ae (Below w.heap.size w wc):=⟨by rw [← hq_];exact bB⟩;clear HO_5 HB hq_;have HO_5:=n0_;have HB:=n1_;clear n0_ n1_));obtain ⟨Ao38,co38,eo38⟩:=Kd.bn HO_5.out;subst eo38;have p460:0 ≤ ((ji30):Int):=pI;have q460:(ji30) < (x5_1.length:Int):=pI;obtain ⟨ad460,e460,hx460_0,hx460_1⟩:=jW (Kd.aV HO_5.out).2.2 (ji30) p460 q460;cases e460;replace p460:=eq_true p460;replace q460:=eq_true q460;have p34:0 ≤ ((ji30):Int):=pI;have q34:((ji30):Int) < ((x5_1.length:Int):Int):=pI;obtain ⟨go34,co34,eo34,gb34,gl34,cl34,HG34⟩:=Kd.nM HO_5.out (by omega);(first | cases eo34 | (injection eo34 with ea_ en_ ec_;(first | subst ea_ | (injection ea_ with ea_;subst ea_));subst ec_;clear en_));have GB34:=aM gb34;have GG34:=aM HG34;clear gb34 gl34 HG34;(first | simp only [add_plain] at hx460_0 | skip);(first | simp only [add_plain] at hx460_1 | skip);obtain ⟨ce34,hcl34,hM34,hcc34,hfr34⟩:=Kd.uD HO_5.out lK ((ji30):Int) p34 q34;obtain rfl:=tN hM34;have hx34_0:wc.cell? ⟨go34,((ji30):Int).toNat * 2,none⟩ = some (.string ((bu x5_1 (ji30)).f0)):=hcc34 0 _ rfl;have hx34_1:wc.cell? ⟨go34,((ji30):Int).toNat * 2 + 1,none⟩ = some (.string ((bu x5_1 (ji30)).f1)):=hcc34 1 _ rfl;have hf34_0:wc.frozen? ⟨go34,((ji30):Int).toNat * 2,none⟩ = false:=hfr34 0 (by decide);have hf34_1:wc.frozen? ⟨go34,((ji30):Int).toNat * 2 + 1,none⟩ = false:=hfr34 1 (by decide);clear hcl34 hcc34 hfr34 hM34;replace p34:=eq_true p34;replace q34:=eq_true q34;have HX39:=aM (show Kd.R bJ 111 wc w.heap.size (fun _=>True) (.slice (some ⟨go34,0,none⟩) x5_1.length co38) x5_1 from (bR HO_5));obtain ⟨ce39,hcl39,hM39,hcc39,hfr39⟩:=Kd.uD HX39.out lK ((ji30):Int) (pI) (bH (pI:((ji30):Int) < ((x5_1.length:Int):Int)) (Kd.aV HO_5.out).1);obtain rfl:=tN hM39;have HP39:=Kd.Bl HX39.out ((ji30):Int) (pI) (bH (pI:((ji30):Int) < ((x5_1.length:Int):Int)) (Kd.aV HO_5.out).1) (seg:=[.string (((bu x5_1 (ji30)).f1) ++ (strOfNums ((l0.take ((wrap64 (x6_1 + x7_7)):Int).toNat).drop (x6_1:Int).toNat)))]) (j:=1) hcl39 hcc39 (show 2 ≤ 2 from by decide) (x':=(⟨(bu x5_1 (ji30)).f0,((bu x5_1 (ji30)).f1) ++ (strOfNums ((l0.take ((wrap64 (x6_1 + x7_7)):Int).toNat).drop (x6_1:Int).toNat))⟩ : ag)) (kX _ _ _ (⟨(bu x5_1 (ji30)).f0,((bu x5_1 (ji30)).f1) ++ (strOfNums ((l0.take ((wrap64 (x6_1 + x7_7)):Int).toNat).drop (x6_1:Int).toNat))⟩ : ag) ) (fun _ hk=>hk);have hx39_1:=hcc39 1 _ rfl;(try simp only [show (bJ).sz = 2 from rfl,Nat.mul_one,Nat.add_zero] at hx39_1);have hf39_1:=hfr39 1 (by decide);(try simp only [show (bJ).sz = 2 from rfl,Nat.mul_one,Nat.add_zero] at hf39_1);clear hcl39 hcc39 hfr39 hM39) | ((with_reducible refine jF (t:=9) (p:=60) rfl ?_);refine jI (t:=9) (p:=60) (v:=?vo_w40) (w1:=(wc.setCell ⟨go34,((ji30):Int).toNat * 2 + 1,none⟩ (.string (((bu x5_1 (ji30)).f1) ++ (strOfNums ((l0.take ((wrap64 (x6_1 + x7_7)):Int).toNat).drop (x6_1:Int).toNat)))))) ?hg ?ho ?hn ?hr ?_;(case ho=>rfl);(case hg=>rfl);(case hn=>rfl);(case hr=>exact aW);intro w40 hw;have hg:wc.grownBy w40 (some go34):=(by rw [hw];exact HP39.2);have hp_:Kd.R bJ 111 w40 w.heap.size (fun _=>True) (.slice (some ⟨go34,0,none⟩) x5_1.length co38) y461:=(by rw [hw,Ny461.out];exact HP39.1);clear HP39;replace HO_5:=aM hp_;replace HB:=aM ((oq GB34.out:Below w.heap.size w w40));clear hg hw hp_));go_roundg kj7
                case measure=>have:=HK1.out;have:=HJ7.out;omega
                case rel=>exact ⟨(y461),(x8_7),bS,H',⟨kP HK1.out HJ7.out⟩,⟨bR HO_5⟩,⟨bB⟩⟩
               rw [if_neg c33] at H;exact aB H
              rw [if_neg c32] at H;exact aB H
             rw [if_neg c31] at H;exact aB H
            replace c24:=Bool.eq_false_iff.mpr c24;subst c24;replace H:((strings_Cut.f (strOfNums ((l0.take ((wrap64 (x6_1 + x7_7)):Int).toNat).drop (x6_1:Int).toNat)) (⟨#[58]⟩ : ByteArray)).bind fun bt462=>(if bt462.2.2 = true then ((strings_TrimPrefix.f bt462.2.1 (⟨#[32]⟩ : ByteArray)).bind fun t465=>(if x5_1.length < 4398046511104 then (dV.l0 kj7 l0 (x5_1 ++ [(⟨bt462.1,t465⟩ : ag)]) x8_7) else (none))) else (some (([]:List (ag)),0,false)))) = some (r1,r2,r3):=dP;replace H:=oB H;obtain ⟨⟨t462,t463,t464⟩,A41,H⟩:=H;try dsimp only at H
            have HQ_:=aM H;clear H;obtain ⟨i045,hi045,_,hsz45,_⟩:=info_parts info5;have H:=HQ_.out;clear HQ_;by_cases c42:t464 = true
            ·subst c42;replace H:((strings_TrimPrefix.f t463 (⟨#[32]⟩ : ByteArray)).bind fun t465=>(if x5_1.length < 4398046511104 then (dV.l0 kj7 l0 (x5_1 ++ [(⟨t462,t465⟩ : ag)]) x8_7) else (none))) = some (r1,r2,r3):=dS;replace H:=oB H;obtain ⟨t465,A43,H⟩:=H;try dsimp only at H
             by_cases c44:x5_1.length < 4398046511104
             ·rw [if_pos c44] at H;have LMc44:=aM c44;clear c44;obtain ⟨y466,hy466⟩ : ∃ y_:List (ag),y_ = (x5_1 ++ [(⟨t462,t465⟩ : ag)]):=⟨_,rfl⟩;replace H:(dV.l0 kj7 l0 y466 x8_7) = some (r1,r2,r3):=bg hy466;have Ny466:=aM hy466;clear hy466;have H':=aM H;clear H;obtain ⟨A45,hcut45,hA45,hC45⟩:=jr (P:=Tryz.prog) (Value.int .u8) 0 22 5 .i64 .i64 Tryz.underlying22 hi045 hsz45 A0 c0 l0 x6_1 (wrap64 (x6_1 + x7_7)) (pI) (by first | omega | exact pI) (pI) HC0.out;have HR457:=aM (Kd.iQ (h1:=fun _=>rfl) (hA45 _ (Kd.iF HR0.out)));have HC457:=aM hC45;clear hA45 hC45 hi045 hsz45;have hcv46:=Kd.eX (P:=Tryz.prog) (A:=A45) (c:=(c0 - x6_1.toNat)) Tryz.underlying22 Tryz.underlying5 Tryz.underlying9 (Kd.fF HR457.out HB.out);(try have hcd47:=fun nq_:Nat=>Kd.eX (P:=Tryz.prog) (A:=A45) (c:=(c0 - x6_1.toNat)) Tryz.underlying22 Tryz.underlying5 Tryz.underlying9 (Kd.iw (Kd.fF HR457.out HB.out) nq_));(try have hce47:=Kd.eX (P:=Tryz.prog) (A:=A45) (c:=(c0 - x6_1.toNat)) Tryz.underlying22 Tryz.underlying5 Tryz.underlying9 (Kd.fF HR457.out HB.out));(try (have hln47:((l0.take ((wrap64 (x6_1 + x7_7)):Int).toNat).drop (x6_1:Int).toNat).length = ((wrap64 (x6_1 + x7_7)):Int).toNat - (x6_1:Int).toNat:=rG));(try rw [hln47] at hce47);(try simp only [hln47] at hcd47);(try clear hln47);have p22:0 ≤ (0:Int):=(by omega);have q22:0 < (strOfNums ((l0.take ((wrap64 (x6_1 + x7_7)):Int).toNat).drop (x6_1:Int).toNat)).size:=tV;have hx22:∀ h:0 < (strOfNums ((l0.take ((wrap64 (x6_1 + x7_7)):Int).toNat).drop (x6_1:Int).toNat)).size,(((strOfNums ((l0.take ((wrap64 (x6_1 + x7_7)):Int).toNat).drop (x6_1:Int).toNat))[0]'h).toNat:Int) = bt (strOfNums ((l0.take ((wrap64 (x6_1 + x7_7)):Int).toNat).drop (x6_1:Int).toNat)) 0:=gZ (strOfNums ((l0.take ((wrap64 (x6_1 + x7_7)):Int).toNat).drop (x6_1:Int).toNat)) 0;clear p22;have qi22:(0 < ((strOfNums ((l0.take ((wrap64 (x6_1 + x7_7)):Int).toNat).drop (x6_1:Int).toNat)).size:Int)) = True:=eq_true (pI);replace q22:=eq_true q22;go_wp2_with (first | ((with_reducible refine gC 72 rfl ?_);refine ah (some 46) Tryz.func72 #[.int .u8 (bt (strOfNums ((l0.take ((wrap64 (x6_1 + x7_7)):Int).toNat).drop (x6_1:Int).toNat)) 0)] ?_;(with_reducible refine (mY.calls (bt (strOfNums ((l0.take ((wrap64 (x6_1 + x7_7)):Int).toNat).drop (x6_1:Int).toNat)) 0) false _ A23.out).mono ?_);rintro e w' ⟨rfl,⟨nd,rfl⟩⟩;refine ⟨_,rfl,?_⟩) | ((with_reducible refine gC 73 rfl ?_);refine ah (some 63) Tryz.func73 #[.string (strOfNums ((l0.take ((wrap64 (x6_1 + x7_7)):Int).toNat).drop (x6_1:Int).toNat)),.string (⟨#[58]⟩ : ByteArray)] ?_;(with_reducible refine (strings_Cut.calls (strOfNums ((l0.take ((wrap64 (x6_1 + x7_7)):Int).toNat).drop (x6_1:Int).toNat)) (⟨#[58]⟩ : ByteArray) t462 t463 true _ A41.out).mono ?_);rintro e w' ⟨rfl,⟨nd,rfl⟩⟩;refine ⟨_,rfl,?_⟩) | ((with_reducible refine gC 74 rfl ?_);refine ah (some 72) Tryz.func74 #[.string t463,.string (⟨#[32]⟩ : ByteArray)] ?_;(with_reducible refine (strings_TrimPrefix.calls t463 (⟨#[32]⟩ : ByteArray) t465 _ A43.out).mono ?_);rintro e w' ⟨rfl,⟨nd,rfl⟩⟩;refine ⟨_,rfl,?_⟩) | ((with_reducible refine gq (b:=.append) (xs:=#[.tmp 69,.tmp 74]) rfl ?_);at_builtin;refine Kd.kG bJ (w0:=w) w.heap.size rfl (.tmp 69) (.tmp 74) 78 111 (.agg #[(.string ⟨#[]⟩),(.string ⟨#[]⟩)]) 32 rfl Tryz.underlying78 jV rfl (by decide) (by omega) u5 x5_1 (⟨t462,t465⟩ : ag) [.string t462,.string t465] (fun _=>True) (fun _=>False) rfl rfl ?aP (fun _ hk=>hk.elim) ?aF ?aO ?aB ?aS ?aL ?_;(case aP=>exact kX _ _ _ (⟨t462,t465⟩ : ag));(case aB=>exact bB);(case aF=>exact (fun _ _=>trivial));(case aO=>exact (bR HO_5));(case aS=>exact (aJ bB));(case aL=>have:=LMc44.out;omega);intro v467 w48 ho hb hg hat;rw [← Ny466.out] at ho;have n0_:=aM hb;have n1_:=aM ho;clear HB;clear HO_5;have HB:=n0_;have HO468:=n1_;clear n0_ n1_;clear ho hb hg hat));go_roundg kj7
              case measure=>have:=HK1.out;have:=HJ7.out;omega
              case rel=>exact ⟨(y466),(x8_7),bS,H',⟨kP HK1.out HJ7.out⟩,⟨bR HO468⟩,⟨bB⟩⟩
             rw [if_neg c44] at H;exact aB H
            replace c42:=Bool.eq_false_iff.mpr c42;subst c42;replace H:(some (([]:List (ag)),0,false)) = some (r1,r2,r3):=dP;simp only [Option.some.injEq,Prod.mk.injEq] at H;obtain ⟨rfl,rfl,rfl⟩:=H;obtain ⟨A49,hcut49,hA49,hC49⟩:=jr (P:=Tryz.prog) (Value.int .u8) 0 22 5 .i64 .i64 Tryz.underlying22 hi045 hsz45 A0 c0 l0 x6_1 (wrap64 (x6_1 + x7_7)) (pI) (by first | omega | exact pI) (pI) HC0.out;have HR457:=aM (Kd.iQ (h1:=fun _=>rfl) (hA49 _ (Kd.iF HR0.out)));have HC457:=aM hC49;clear hA49 hC49 hi045 hsz45;have hcv50:=Kd.eX (P:=Tryz.prog) (A:=A49) (c:=(c0 - x6_1.toNat)) Tryz.underlying22 Tryz.underlying5 Tryz.underlying9 (Kd.fF HR457.out HB.out);(try have hcd51:=fun nq_:Nat=>Kd.eX (P:=Tryz.prog) (A:=A49) (c:=(c0 - x6_1.toNat)) Tryz.underlying22 Tryz.underlying5 Tryz.underlying9 (Kd.iw (Kd.fF HR457.out HB.out) nq_));(try have hce51:=Kd.eX (P:=Tryz.prog) (A:=A49) (c:=(c0 - x6_1.toNat)) Tryz.underlying22 Tryz.underlying5 Tryz.underlying9 (Kd.fF HR457.out HB.out));(try (have hln51:((l0.take ((wrap64 (x6_1 + x7_7)):Int).toNat).drop (x6_1:Int).toNat).length = ((wrap64 (x6_1 + x7_7)):Int).toNat - (x6_1:Int).toNat:=rG));(try rw [hln51] at hce51);(try simp only [hln51] at hcd51);(try clear hln51);have p22:0 ≤ (0:Int):=(by omega);have q22:0 < (strOfNums ((l0.take ((wrap64 (x6_1 + x7_7)):Int).toNat).drop (x6_1:Int).toNat)).size:=tV;have hx22:∀ h:0 < (strOfNums ((l0.take ((wrap64 (x6_1 + x7_7)):Int).toNat).drop (x6_1:Int).toNat)).size,(((strOfNums ((l0.take ((wrap64 (x6_1 + x7_7)):Int).toNat).drop (x6_1:Int).toNat))[0]'h).toNat:Int) = bt (strOfNums ((l0.take ((wrap64 (x6_1 + x7_7)):Int).toNat).drop (x6_1:Int).toNat)) 0:=gZ (strOfNums ((l0.take ((wrap64 (x6_1 + x7_7)):Int).toNat).drop (x6_1:Int).toNat)) 0;clear p22;have qi22:(0 < ((strOfNums ((l0.take ((wrap64 (x6_1 + x7_7)):Int).toNat).drop (x6_1:Int).toNat)).size:Int)) = True:=eq_true (pI);replace q22:=eq_true q22;go_wp2_with (first | ((with_reducible refine gC 72 rfl ?_);refine ah (some 46) Tryz.func72 #[.int .u8 (bt (strOfNums ((l0.take ((wrap64 (x6_1 + x7_7)):Int).toNat).drop (x6_1:Int).toNat)) 0)] ?_;(with_reducible refine (mY.calls (bt (strOfNums ((l0.take ((wrap64 (x6_1 + x7_7)):Int).toNat).drop (x6_1:Int).toNat)) 0) false _ A23.out).mono ?_);rintro e w' ⟨rfl,⟨nd,rfl⟩⟩;refine ⟨_,rfl,?_⟩) | ((with_reducible refine gC 73 rfl ?_);refine ah (some 63) Tryz.func73 #[.string (strOfNums ((l0.take ((wrap64 (x6_1 + x7_7)):Int).toNat).drop (x6_1:Int).toNat)),.string (⟨#[58]⟩ : ByteArray)] ?_;(with_reducible refine (strings_Cut.calls (strOfNums ((l0.take ((wrap64 (x6_1 + x7_7)):Int).toNat).drop (x6_1:Int).toNat)) (⟨#[58]⟩ : ByteArray) t462 t463 false _ A41.out).mono ?_);rintro e w' ⟨rfl,⟨nd,rfl⟩⟩;refine ⟨_,rfl,?_⟩));go_ret3;exact ⟨_,bE,kZ,bB⟩
           rw [if_neg c21] at H;exact aB H
          rw [if_neg c13] at H;exact aB H
         rw [if_neg c12] at H;exact aB H
        rw [if_neg c11] at H;exact aB H
     rw [if_neg c6] at H;exact aB H
    rw [if_neg c5] at H;exact aB H
   rw [if_neg c4] at H;have c4b0:=decide_eq_false c4;clear c4;replace H:=oB H;obtain ⟨t454,A52,H⟩:=H;try dsimp only at H
   simp only [Option.some.injEq,Prod.mk.injEq] at H;obtain ⟨rfl,rfl,rfl⟩:=H;obtain ⟨Ao53,co53,eo53⟩:=Kd.bn HO_5.out;subst eo53;go_wp2_with (first | ((with_reducible refine gC 75 rfl ?_);refine ah (some 79) Tryz.func75 #[.slice Ao53 x5_1.length co53] ?_;(with_reducible refine (iG.calls k1 _ _ x5_1 t454 _ ?side1 ?side2 A52.out).mono ?_);(case side1=>exact dO HO_5.out);(case side2=>exact (Kd.aV HO_5.out).2.1);rintro e w54 ⟨rfl,hb⟩;refine ⟨_,rfl,?_⟩;replace HO_5:=aM (Kd.aY (bR HO_5) hb);replace HB:=aM (au bB hb);(try clear hi)));go_ret3;exact ⟨_,bE,bR HO_5,bB⟩
end Go.Proofs.YtecpanfndodjgaaGreatDoor.PNested
