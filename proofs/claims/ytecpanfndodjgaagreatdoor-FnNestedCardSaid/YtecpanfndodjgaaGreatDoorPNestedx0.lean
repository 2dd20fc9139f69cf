/- Part of the proof;words that it uses. -/
import Derived.Test.YtecpanfndodjgaaGreatDoorProg
import Derived.Below
import Derived.Deep.Draws
import Derived.Deep.AppendLies
import Derived.Maps.AppendAt
import Derived.OwnWalk
import Derived.Laws.BytesArg
import Derived.Laws.MakeOwn
import Derived.Laws.OwnMore
import Derived.Deep.OwnRows
import Derived.Tactics
import Derived.Lib.ConvBytes
import Derived.Laws.Slices
import Derived.WalkKit
import Derived.KernelRfl
import Derived.RowKit3
import Derived.Deep.LoopGhost
import Derived.Deep.QuietTactic
import Derived.BigQuiet
import Derived.WideLaws
import Derived.Deep.DeepCutAuto
import Derived.Deep.CutBlock
import Derived.Deep.RegionHeld3
import Derived.Laws.Rows
import Derived.Lib.AppendStr
import Derived.ArgAppend
import Derived.Laws.IdiomCopy
import Derived.OrdersHeld
import Derived.Laws.BitsLemmas
import Derived.RowKit
import Derived.WalkSpells
import Derived.Shelf.Strings.FieldsFuncAny
import Derived.Shelf.Strings.SlTrimAscii
import Derived.Shelf.Strings.Trim
import Derived.Shelf.Bytes.SlIndexAt
import Derived.Shelf.Strings.Search2
import Derived.Shelf.GgClosure.Gives
import Derived.Test.YtecpanfndodjgaaGreatDoorWWords
import Derived.Test.YtecpanfndodjgaaGreatDoorWLast
import Derived.Test.YtecpanfndodjgaaGreatDoorWTab
import Derived.Test.YtecpanfndodjgaaGreatDoorWFour
import Derived.Test.YtecpanfndodjgaaGreatDoorWQPut
import Derived.Test.YtecpanfndodjgaaGreatDoorWApart
import Derived.Test.YtecpanfndodjgaaGreatDoorWArr
import Derived.Test.YtecpanfndodjgaaGreatDoorWZeros
import Derived.Test.YtecpanfndodjgaaGreatDoorWFoot
import Derived.Test.YtecpanfndodjgaaGreatDoorWKept
import Derived.Test.YtecpanfndodjgaaGreatDoorWShare
import Derived.Test.YtecpanfndodjgaaGreatDoorWN
import Derived.Test.YtecpanfndodjgaaGreatDoorWFootNe
import Derived.Test.YtecpanfndodjgaaGreatDoorWAt
import Derived.Test.YtecpanfndodjgaaGreatDoorWEqStruct
import Derived.Test.YtecpanfndodjgaaGreatDoorWRepsOne
import Derived.Test.YtecpanfndodjgaaGreatDoorWInv
import Derived.Test.YtecpanfndodjgaaGreatDoorWInvWords
import Derived.Test.YtecpanfndodjgaaGreatDoorWGuard
import Derived.Test.YtecpanfndodjgaaGreatDoorWNEv
import Derived.Test.YtecpanfndodjgaaGreatDoorWMore
import Derived.Test.YtecpanfndodjgaaGreatDoorWConv
import Derived.Test.YtecpanfndodjgaaGreatDoorWAbbr
namespace Go.Proofs.YtecpanfndodjgaaGreatDoor.PNested
open Go.RowKit Go.Proofs.YtecpanfndodjgaaGreatDoorW.PrintWords Go.Proofs.YtecpanfndodjgaaGreatDoorW.PrintLast Go.Proofs.YtecpanfndodjgaaGreatDoorW.PrintMore
attribute [local go_sem] jJ jL
set_option linter.unusedVariables false
set_option linter.unusedSimpArgs false
def xU:Option Int → Value
  | none=>.nilIface
  | some c=>.iface 0 (.int .i64 c)
theorem jq:xU none = .nilIface:=rfl
theorem jB (c:Int):xU (some c) = .iface 0 (.int .i64 c):=rfl
theorem yf:(Tryz.prog.info? 2).map (fun i=>(i.zero,i.size,i.bytes)) = some (some (.int .i64 0),1,8):=by kernel_rfl
theorem info5:(Tryz.prog.info? 5).map (fun i=>(i.zero,i.size,i.bytes)) = some (some (.int .u8 0),1,1):=by kernel_rfl
theorem info9:(Tryz.prog.info? 9).map (fun i=>(i.zero,i.size,i.bytes)) = some (some (.string ⟨#[]⟩),1,16):=by kernel_rfl
theorem info22:(Tryz.prog.info? 22).map (fun i=>(i.zero,i.size,i.bytes)) = some (some (.slice none 0 0),1,24):=by kernel_rfl
theorem info30:(Tryz.prog.info? 30).map (fun i=>(i.zero,i.size,i.bytes)) = some (some (.agg #[(.int .i64 0),(.int .i64 0),(.int .i64 0),(.int .i64 0),(.int .i64 0),(.int .i64 0),(.int .i64 0)]),7,56):=by kernel_rfl
theorem vS:(Tryz.prog.info? 84).map (fun i=>(i.zero,i.size,i.bytes)) = some (some (.agg #[(.int .i64 0),(.int .i64 0)]),2,16):=by kernel_rfl
theorem yI:(Tryz.prog.info? 90).map (fun i=>(i.zero,i.size,i.bytes)) = some (some (.agg #[(.int .i64 0),(.int .i64 0)]),2,16):=by kernel_rfl
theorem jV:(Tryz.prog.info? 111).map (fun i=>(i.zero,i.size,i.bytes)) = some (some (.agg #[(.string ⟨#[]⟩),(.string ⟨#[]⟩)]),2,32):=by kernel_rfl
def iJ (xs:List (List Int)) (i:Int):(List Int):=xs.getD i.toNat ([]:List Int)
theorem Gx {w:World} {A:Option Addr} {n:Nat} {xs:List (List Int)} (h:Kd.C (Kd.slice 5 (Kd.int .u8)) w A n xs) (i:Int) (h0:0 ≤ i) (h1:i < n):∃ ad A0 c0,A = some ad ∧ w.cell? (ad.add i.toNat) = some (.slice A0 (iJ xs i).length c0) ∧ (iJ xs i).length ≤ c0 ∧ (Kd.int .u8).C w A0 (iJ xs i).length (iJ xs i):=by
  obtain ⟨ad,c,e,_,hK,hc0⟩:=Kd.qH h ([]:List Int) i h0 h1
  have hc:∀ j u,c[j]? = some u → w.cell? (ad.add (i.toNat * 1 + j)) = some u:=hc0
  obtain ⟨A0,c0,rfl,l0,g0⟩:=hK
  exact ⟨ad,A0,c0,e,by have hq:=hc 0 _ rfl;rwa [Nat.mul_one,Nat.add_zero] at hq,l0,g0⟩
structure aH where
  f0:Int
  f1:Int
  f2:Int
  f3:Int
  f4:Int
  f5:Int
  f6:Int
def z30:aH:=⟨(0:Int),(0:Int),(0:Int),(0:Int),(0:Int),(0:Int),(0:Int)⟩
def k30:Kd aH:=Kd.uz (Kd.pair (Kd.int .i64) (Kd.pair (Kd.int .i64) (Kd.pair (Kd.int .i64) (Kd.pair (Kd.int .i64) (Kd.pair (Kd.int .i64) (Kd.pair (Kd.int .i64) (Kd.int .i64))))))) (fun x:aH=>(x.f0,x.f1,x.f2,x.f3,x.f4,x.f5,x.f6))
theorem DL {w:World} {x:aH} {cs:List Value} (h:k30.K w x cs):cs = [.int .i64 x.f0,.int .i64 x.f1,.int .i64 x.f2,.int .i64 x.f3,.int .i64 x.f4,.int .i64 x.f5,.int .i64 x.f6]:=by
  obtain ⟨_,_,rfl,rfl,⟨_,_,rfl,rfl,⟨_,_,rfl,rfl,⟨_,_,rfl,rfl,⟨_,_,rfl,rfl,⟨_,_,rfl,rfl,rfl⟩⟩⟩⟩⟩⟩:=h
  exact rfl
theorem yL (w:World) (base:Nat) (ok:Nat → Prop) (x:aH)  : k30.M w base ok x [.int .i64 x.f0,.int .i64 x.f1,.int .i64 x.f2,.int .i64 x.f3,.int .i64 x.f4,.int .i64 x.f5,.int .i64 x.f6]:=⟨[.int .i64 x.f0],[.int .i64 x.f1,.int .i64 x.f2,.int .i64 x.f3,.int .i64 x.f4,.int .i64 x.f5,.int .i64 x.f6],rfl,rfl,⟨[.int .i64 x.f1],[.int .i64 x.f2,.int .i64 x.f3,.int .i64 x.f4,.int .i64 x.f5,.int .i64 x.f6],rfl,rfl,⟨[.int .i64 x.f2],[.int .i64 x.f3,.int .i64 x.f4,.int .i64 x.f5,.int .i64 x.f6],rfl,rfl,⟨[.int .i64 x.f3],[.int .i64 x.f4,.int .i64 x.f5,.int .i64 x.f6],rfl,rfl,⟨[.int .i64 x.f4],[.int .i64 x.f5,.int .i64 x.f6],rfl,rfl,⟨[.int .i64 x.f5],[.int .i64 x.f6],rfl,rfl,rfl⟩⟩⟩⟩⟩⟩
def af (xs:List aH) (i:Int):aH:=xs.getD i.toNat z30
theorem oM {w:World} {A:Option Addr} {n:Nat} {xs:List aH} (h:Kd.C k30 w A n xs) (i:Int) (h0:0 ≤ i) (h1:i < n):∃ ad ,A = some ad ∧ w.cell? (ad.add (i.toNat * 7)) = some (.int .i64 (af xs i).f0) ∧ w.cell? ⟨(ad.add (i.toNat * 7)).block,(ad.add (i.toNat * 7)).off + 1,none⟩ = some (.int .i64 (af xs i).f1) ∧ w.cell? ⟨(ad.add (i.toNat * 7)).block,(ad.add (i.toNat * 7)).off + 2,none⟩ = some (.int .i64 (af xs i).f2) ∧ w.cell? ⟨(ad.add (i.toNat * 7)).block,(ad.add (i.toNat * 7)).off + 3,none⟩ = some (.int .i64 (af xs i).f3) ∧ w.cell? ⟨(ad.add (i.toNat * 7)).block,(ad.add (i.toNat * 7)).off + 4,none⟩ = some (.int .i64 (af xs i).f4) ∧ w.cell? ⟨(ad.add (i.toNat * 7)).block,(ad.add (i.toNat * 7)).off + 5,none⟩ = some (.int .i64 (af xs i).f5) ∧ w.cell? ⟨(ad.add (i.toNat * 7)).block,(ad.add (i.toNat * 7)).off + 6,none⟩ = some (.int .i64 (af xs i).f6):=by
  obtain ⟨ad,c,e,_,hK,hc0⟩:=Kd.qH h z30 i h0 h1
  have hc:∀ j u,c[j]? = some u → w.cell? (ad.add (i.toNat * 7 + j)) = some u:=hc0
  obtain rfl:=DL hK
  exact ⟨ad,e,hc 0 _ rfl,by rw [← ng _ _ 1 (by omega)];exact hc 1 _ rfl,by rw [← ng _ _ 2 (by omega)];exact hc 2 _ rfl,by rw [← ng _ _ 3 (by omega)];exact hc 3 _ rfl,by rw [← ng _ _ 4 (by omega)];exact hc 4 _ rfl,by rw [← ng _ _ 5 (by omega)];exact hc 5 _ rfl,by rw [← ng _ _ 6 (by omega)];exact hc 6 _ rfl⟩
structure ag where
  f0:ByteArray
  f1:ByteArray
def lK:ag:=⟨(⟨#[]⟩ : ByteArray),(⟨#[]⟩ : ByteArray)⟩
def bJ:Kd ag:=Kd.uz (Kd.pair Kd.string Kd.string) (fun x:ag=>(x.f0,x.f1))
theorem Dh {w:World} {x:ag} {cs:List Value} (h:bJ.K w x cs):cs = [.string x.f0,.string x.f1]:=by
  obtain ⟨_,_,rfl,rfl,rfl⟩:=h
  exact rfl
theorem tN {w:World} {base:Nat} {ok:Nat → Prop} {x:ag} {cs:List Value} (h:bJ.M w base ok x cs):cs = [.string x.f0,.string x.f1]:=by
  obtain ⟨_,_,rfl,rfl,rfl⟩:=h
  exact rfl
theorem kX (w:World) (base:Nat) (ok:Nat → Prop) (x:ag)  : bJ.M w base ok x [.string x.f0,.string x.f1]:=⟨[.string x.f0],[.string x.f1],rfl,rfl,rfl⟩
def bu (xs:List ag) (i:Int):ag:=xs.getD i.toNat lK
theorem jW {w:World} {A:Option Addr} {n:Nat} {xs:List ag} (h:Kd.C bJ w A n xs) (i:Int) (h0:0 ≤ i) (h1:i < n):∃ ad ,A = some ad ∧ w.cell? (ad.add (i.toNat * 2)) = some (.string (bu xs i).f0) ∧ w.cell? ⟨(ad.add (i.toNat * 2)).block,(ad.add (i.toNat * 2)).off + 1,none⟩ = some (.string (bu xs i).f1):=by
  obtain ⟨ad,c,e,_,hK,hc0⟩:=Kd.qH h lK i h0 h1
  have hc:∀ j u,c[j]? = some u → w.cell? (ad.add (i.toNat * 2 + j)) = some u:=hc0
  obtain rfl:=Dh hK
  exact ⟨ad,e,hc 0 _ rfl,by rw [← ng _ _ 1 (by omega)];exact hc 1 _ rfl⟩
structure df where
  f0:Int
  f1:Int
def z84:df:=⟨(0:Int),(0:Int)⟩
def kS:Kd df:=Kd.uz (Kd.pair (Kd.int .i64) (Kd.int .i64)) (fun x:df=>(x.f0,x.f1))
theorem FB {w:World} {x:df} {cs:List Value} (h:kS.K w x cs):cs = [.int .i64 x.f0,.int .i64 x.f1]:=by
  obtain ⟨_,_,rfl,rfl,rfl⟩:=h
  exact rfl
theorem xw (w:World) (base:Nat) (ok:Nat → Prop) (x:df)  : kS.M w base ok x [.int .i64 x.f0,.int .i64 x.f1]:=⟨[.int .i64 x.f0],[.int .i64 x.f1],rfl,rfl,rfl⟩
def ji (xs:List df) (i:Int):df:=xs.getD i.toNat z84
theorem Gn {w:World} {A:Option Addr} {n:Nat} {xs:List df} (h:Kd.C kS w A n xs) (i:Int) (h0:0 ≤ i) (h1:i < n):∃ ad ,A = some ad ∧ w.cell? (ad.add (i.toNat * 2)) = some (.int .i64 (ji xs i).f0) ∧ w.cell? ⟨(ad.add (i.toNat * 2)).block,(ad.add (i.toNat * 2)).off + 1,none⟩ = some (.int .i64 (ji xs i).f1):=by
  obtain ⟨ad,c,e,_,hK,hc0⟩:=Kd.qH h z84 i h0 h1
  have hc:∀ j u,c[j]? = some u → w.cell? (ad.add (i.toNat * 2 + j)) = some u:=hc0
  obtain rfl:=FB hK
  exact ⟨ad,e,hc 0 _ rfl,by rw [← ng _ _ 1 (by omega)];exact hc 1 _ rfl⟩
structure dQ where
  f0:Int
  f1:Int
def AU:dQ:=⟨(0:Int),(0:Int)⟩
def lX:Kd dQ:=Kd.uz (Kd.pair (Kd.int .i64) (Kd.int .i64)) (fun x:dQ=>(x.f0,x.f1))
theorem Fe {w:World} {x:dQ} {cs:List Value} (h:lX.K w x cs):cs = [.int .i64 x.f0,.int .i64 x.f1]:=by
  obtain ⟨_,_,rfl,rfl,rfl⟩:=h
  exact rfl
theorem Be (w:World) (base:Nat) (ok:Nat → Prop) (x:dQ)  : lX.M w base ok x [.int .i64 x.f0,.int .i64 x.f1]:=⟨[.int .i64 x.f0],[.int .i64 x.f1],rfl,rfl,rfl⟩
def kz (xs:List dQ) (i:Int):dQ:=xs.getD i.toNat AU
theorem zS {w:World} {A:Option Addr} {n:Nat} {xs:List dQ} (h:Kd.C lX w A n xs) (i:Int) (h0:0 ≤ i) (h1:i < n):∃ ad ,A = some ad ∧ w.cell? (ad.add (i.toNat * 2)) = some (.int .i64 (kz xs i).f0) ∧ w.cell? ⟨(ad.add (i.toNat * 2)).block,(ad.add (i.toNat * 2)).off + 1,none⟩ = some (.int .i64 (kz xs i).f1):=by
  obtain ⟨ad,c,e,_,hK,hc0⟩:=Kd.qH h AU i h0 h1
  have hc:∀ j u,c[j]? = some u → w.cell? (ad.add (i.toNat * 2 + j)) = some u:=hc0
  obtain rfl:=Fe hK
  exact ⟨ad,e,hc 0 _ rfl,by rw [← ng _ _ 1 (by omega)];exact hc 1 _ rfl⟩
@[go_sem] theorem GK (x0 x1:Value) (w:World):(Instr.field 27 (.agg #[x0,x1]) 0).run Tryz.prog w = .ok x0 w:=by kernel_rfl
@[go_sem] theorem GL (x0 x1:Value) (w:World):(Instr.field 27 (.agg #[x0,x1]) 1).run Tryz.prog w = .ok x1 w:=by kernel_rfl
@[go_sem] theorem GI (x0 x1:Value) (w:World):(Instr.field 36 (.agg #[x0,x1]) 1).run Tryz.prog w = .ok x1 w:=by kernel_rfl
theorem aC {p:Prop} (h:p:=by repeat (first | (with_reducible first | exact HK.out | apply aA.yg | apply Bo | apply keep_drew | apply keep_alloc) | exact HK.out)):p:=h
theorem bg {p a:Prop} (x0_:a) (h:a → p:=by intro x0_;first | (rw [x0_];with_reducible exact H) | (have H2_:=(Option.bind_some _ _).symm.trans H;rw [x0_];with_reducible exact H2_) | (have H2_:=(Option.bind_some _ _).symm.trans H;with_reducible exact H2_) | with_reducible exact H | (rw [x0_];exact H) | exact H):p:=h x0_
theorem aG {p a:Prop} (x0_:a) (h:a → p:=by intro x0_;repeat (first | (with_reducible first | exact x0_ | apply az.alloc | apply az.drewN | apply az.drew | apply az.BX) | exact x0_)):p:=h x0_
theorem aT {p a:Prop} (x0_:a) (h:a → p:=by intro x0_;repeat (first | (with_reducible first | exact HB.out | apply ku | apply lD | apply iP | refine lV ?_ (az.ge x0_)) | exact HB.out)):p:=h x0_
theorem nU {p a b:Prop} (x0_:a) (x1_:b) (h:a → b → p:=by intro x0_ x1_;(with_reducible repeat (first | refine ak ?_ _ | refine aj ?_ | refine ai ?_ _));refine fD ?_ x0_ _;(with_reducible repeat (first | refine ak ?_ _ | refine aj ?_ | refine ai ?_ _));refine fD ?_ x0_ _;(with_reducible repeat (first | refine ak ?_ _ | refine aj ?_ | refine ai ?_ _));refine fD ?_ x0_ _;(with_reducible repeat (first | refine ak ?_ _ | refine aj ?_ | refine ai ?_ _));refine fD ?_ x0_ _;(with_reducible repeat (first | refine ak ?_ _ | refine aj ?_ | refine ai ?_ _));refine fD ?_ x0_ _;(with_reducible repeat (first | refine ak ?_ _ | refine aj ?_ | refine ai ?_ _));refine fD ?_ x0_ _;(with_reducible repeat (first | refine ak ?_ _ | refine aj ?_ | refine ai ?_ _));refine fD ?_ x0_ _;(with_reducible repeat (first | refine ak ?_ _ | refine aj ?_ | refine ai ?_ _));exact x1_):p:=h x0_ x1_
theorem oJ {p a:Prop} (x0_:a) (h:a → p:=by intro x0_;(with_reducible repeat (first | refine ak ?_ _ | refine aj ?_ | refine ai ?_ _));refine aI (cs:=#[.int .i64 1,.int .i64 1,.int .i64 0,.int .i64 0,.int .i64 0,.int .i64 0,.int .i64 0]) ?_ 6 _ rfl;(with_reducible repeat (first | refine ak ?_ _ | refine aj ?_ | refine ai ?_ _));refine aI (cs:=#[.int .i64 1,.int .i64 1,.int .i64 0,.int .i64 0,.int .i64 0,.int .i64 0,.int .i64 0]) ?_ 5 _ rfl;(with_reducible repeat (first | refine ak ?_ _ | refine aj ?_ | refine ai ?_ _));refine aI (cs:=#[.int .i64 1,.int .i64 1,.int .i64 0,.int .i64 0,.int .i64 0,.int .i64 0,.int .i64 0]) ?_ 4 _ rfl;(with_reducible repeat (first | refine ak ?_ _ | refine aj ?_ | refine ai ?_ _));refine aI (cs:=#[.int .i64 1,.int .i64 1,.int .i64 0,.int .i64 0,.int .i64 0,.int .i64 0,.int .i64 0]) ?_ 3 _ rfl;(with_reducible repeat (first | refine ak ?_ _ | refine aj ?_ | refine ai ?_ _));refine aI (cs:=#[.int .i64 1,.int .i64 1,.int .i64 0,.int .i64 0,.int .i64 0,.int .i64 0,.int .i64 0]) ?_ 2 _ rfl;(with_reducible repeat (first | refine ak ?_ _ | refine aj ?_ | refine ai ?_ _));refine aI (cs:=#[.int .i64 1,.int .i64 0,.int .i64 0,.int .i64 0,.int .i64 0,.int .i64 0,.int .i64 0]) ?_ 1 _ rfl;(with_reducible repeat (first | refine ak ?_ _ | refine aj ?_ | refine ai ?_ _));refine aI (cs:=#[.int .i64 0,.int .i64 0,.int .i64 0,.int .i64 0,.int .i64 0,.int .i64 0,.int .i64 0]) ?_ 0 _ rfl;(with_reducible repeat (first | refine ak ?_ _ | refine aj ?_ | refine ai ?_ _));exact x0_):p:=h x0_
theorem dO {p a:Prop} (x0_:a) (h:a → p:=by intro x0_;repeat (first | exact (Kd.aV x0_).2.2 | (with_reducible refine Kd.C_alloc ?_ _) | (with_reducible refine Kd.iw ?_ _) | (with_reducible refine Kd.C_drew ?_))):p:=h x0_
theorem sF {p a:Prop} (x0_:a) (h:a → p:=by intro x0_;(with_reducible repeat (first | refine ak ?_ _ | refine aj ?_ | refine ai ?_ _));refine aI (cs:=#[.int .i64 3,.int .i64 0,.int .i64 0,.int .i64 0,.int .i64 0,.int .i64 0,.int .i64 0]) ?_ 6 _ rfl;(with_reducible repeat (first | refine ak ?_ _ | refine aj ?_ | refine ai ?_ _));refine aI (cs:=#[.int .i64 3,.int .i64 0,.int .i64 0,.int .i64 0,.int .i64 0,.int .i64 0,.int .i64 0]) ?_ 5 _ rfl;(with_reducible repeat (first | refine ak ?_ _ | refine aj ?_ | refine ai ?_ _));refine aI (cs:=#[.int .i64 3,.int .i64 0,.int .i64 0,.int .i64 0,.int .i64 0,.int .i64 0,.int .i64 0]) ?_ 4 _ rfl;(with_reducible repeat (first | refine ak ?_ _ | refine aj ?_ | refine ai ?_ _));refine aI (cs:=#[.int .i64 3,.int .i64 0,.int .i64 0,.int .i64 0,.int .i64 0,.int .i64 0,.int .i64 0]) ?_ 3 _ rfl;(with_reducible repeat (first | refine ak ?_ _ | refine aj ?_ | refine ai ?_ _));refine aI (cs:=#[.int .i64 3,.int .i64 0,.int .i64 0,.int .i64 0,.int .i64 0,.int .i64 0,.int .i64 0]) ?_ 2 _ rfl;(with_reducible repeat (first | refine ak ?_ _ | refine aj ?_ | refine ai ?_ _));refine aI (cs:=#[.int .i64 3,.int .i64 0,.int .i64 0,.int .i64 0,.int .i64 0,.int .i64 0,.int .i64 0]) ?_ 1 _ rfl;(with_reducible repeat (first | refine ak ?_ _ | refine aj ?_ | refine ai ?_ _));refine aI (cs:=#[.int .i64 0,.int .i64 0,.int .i64 0,.int .i64 0,.int .i64 0,.int .i64 0,.int .i64 0]) ?_ 0 _ rfl;(with_reducible repeat (first | refine ak ?_ _ | refine aj ?_ | refine ai ?_ _));exact x0_):p:=h x0_
theorem iC {p a b:Prop} (x0_:a) (x1_:b) (h:a → b → p:=by intro x0_ x1_;repeat (first | (with_reducible first | exact HK.out | apply Kept.alloc | apply Kept.drewN | apply Kept.drew | refine Kept.setCell ?_ (.inl x0_) _ | refine Kept.setCell ?_ (.inr x1_) _) | exact HK.out)):p:=h x0_ x1_
theorem bf {p:Prop} (h:p:=by repeat (first | exact dH.refl _ | apply dH.step)):p:=h
theorem jR {p a b:Prop} (x0_:a) (x1_:b) (h:a → b → p:=by intro x0_ x1_;(with_reducible repeat (first | refine ak ?_ _ | refine aj ?_ | refine ai ?_ _));refine fD ?_ x0_ _;(with_reducible repeat (first | refine ak ?_ _ | refine aj ?_ | refine ai ?_ _));refine fD ?_ x0_ _;(with_reducible repeat (first | refine ak ?_ _ | refine aj ?_ | refine ai ?_ _));exact x1_):p:=h x0_ x1_
theorem eY {p a:Prop} (x0_:a) (h:a → p:=by intro x0_;repeat (first | exact (Kd.fF x0_ HB.out) | (with_reducible refine Kd.C_alloc ?_ _) | (with_reducible refine Kd.iw ?_ _) | (with_reducible refine Kd.C_drew ?_))):p:=h x0_
theorem sK {p a b:Prop} (x0_:a) (x1_:b) (h:a → b → p:=by intro x0_ x1_;rw [hw];exact (by (with_reducible repeat (first | refine ak ?_ _ | refine aj ?_ | refine ai ?_ _));refine fD ?_ x0_ _;(with_reducible repeat (first | refine ak ?_ _ | refine aj ?_ | refine ai ?_ _));refine fD ?_ x0_ _;(with_reducible repeat (first | refine ak ?_ _ | refine aj ?_ | refine ai ?_ _));refine fD ?_ x0_ _;(with_reducible repeat (first | refine ak ?_ _ | refine aj ?_ | refine ai ?_ _));refine fD ?_ x0_ _;(with_reducible repeat (first | refine ak ?_ _ | refine aj ?_ | refine ai ?_ _));refine fD ?_ x0_ _;(with_reducible repeat (first | refine ak ?_ _ | refine aj ?_ | refine ai ?_ _));refine fD ?_ x0_ _;(with_reducible repeat (first | refine ak ?_ _ | refine aj ?_ | refine ai ?_ _));refine fD ?_ x0_ _;(with_reducible repeat (first | refine ak ?_ _ | refine aj ?_ | refine ai ?_ _));exact x1_)):p:=h x0_ x1_
theorem jy {p a:Prop} (x0_:a) (h:a → p:=by intro x0_;(with_reducible repeat (first | apply Kd.R_alloc | apply Kd.dE | apply Kd.dm));exact Kd.aU x0_ (fun _ hk=>hk.2)):p:=h x0_
theorem qi {p a b:Prop} (x0_:a) (x1_:b) (h:a → b → p:=by intro x0_ x1_;(with_reducible repeat (first | apply Kd.R_alloc | apply Kd.dE | apply Kd.dm));exact (Kd.aU (Kd.aK (p:=⟨gb645,6,none⟩) (Kd.aK (p:=⟨gb645,5,none⟩) (Kd.aK (p:=⟨gb645,4,none⟩) (Kd.aK (p:=⟨gb645,3,none⟩) (Kd.aK (p:=⟨gb645,2,none⟩) (Kd.aK (p:=⟨gb645,1,none⟩) (Kd.aK (p:=⟨gb645,0,none⟩) (Kd.gz x0_ x1_ (by decide)) (fun _ hk=>hk.2) (.int .i64 1)) (fun _ hk=>hk.2) (.int .i64 1)) (fun _ hk=>hk.2) (.int .i64 0)) (fun _ hk=>hk.2) (.int .i64 0)) (fun _ hk=>hk.2) (.int .i64 0)) (fun _ hk=>hk.2) (.int .i64 0)) (fun _ hk=>hk.2) (.int .i64 0)) (fun _ h_=>h_.1))):p:=h x0_ x1_
theorem aW {p:Prop} (h:p:=by first | (go_simp;done) | (go_simp;rfl)):p:=h
theorem gB {p a:Prop} (x0_:a) (h:a → p:=by intro x0_;(with_reducible repeat (first | apply Kd.R_alloc | apply Kd.dE | apply Kd.dm));exact Kd.aU x0_ (fun _ hk=>trivial)):p:=h x0_
theorem jA {p a b c:Prop} (x0_:a) (x1_:b) (x2_:c) (h:a → b → c → p:=by intro x0_ x1_ x2_;repeat (first | (with_reducible first | exact HB.out | apply ku | apply lD | apply iP | refine lV ?_ x0_ | refine lV ?_ x1_ | refine lV ?_ x2_) | exact HB.out)):p:=h x0_ x1_ x2_
theorem lY {p a b:Prop} (x0_:a) (x1_:b) (h:a → b → p:=by intro x0_ x1_;(with_reducible repeat (first | apply Kd.R_alloc | apply Kd.dE | apply Kd.dm));exact (Kd.aU (Kd.aK (p:=⟨gb774,1,none⟩) (Kd.aK (p:=⟨gb774,0,none⟩) (Kd.gz x0_ x1_ (by decide)) (fun _ hk=>hk.2) (.int .i64 t770)) (fun _ hk=>hk.2) (.slice Ao26 t771.length co26)) (fun _ h_=>h_.1))):p:=h x0_ x1_
theorem dP {p:Prop} (h:p:=by rw [if_neg (show ¬ (false = true) by decide)] at H;exact H):p:=h
theorem jw {p a:Prop} (x0_:a) (h:a → p:=by intro x0_;repeat (first | (with_reducible first | exact HK.out | apply Kept.alloc | apply Kept.drewN | apply Kept.drew | refine Kept.setCell ?_ (.inr x0_) _) | exact HK.out)):p:=h x0_
theorem pF {p a:Prop} (x0_:a) (h:a → p:=by intro x0_;(with_reducible repeat (first | refine ak ?_ _ | refine aj ?_ | refine ai ?_ _));refine aI (cs:=#[.int .i64 t770,.slice none 0 0]) ?_ 1 _ rfl;(with_reducible repeat (first | refine ak ?_ _ | refine aj ?_ | refine ai ?_ _));refine aI (cs:=#[.int .i64 0,.slice none 0 0]) ?_ 0 _ rfl;(with_reducible repeat (first | refine ak ?_ _ | refine aj ?_ | refine ai ?_ _));exact x0_):p:=h x0_
theorem uj {p a b:Prop} (x0_:a) (x1_:b) (h:a → b → p:=by intro x0_ x1_;(with_reducible repeat (first | apply Kd.R_alloc | apply Kd.dE | apply Kd.dm));exact (Kd.aU (Kd.aK (p:=⟨gb565,6,none⟩) (Kd.aK (p:=⟨gb565,5,none⟩) (Kd.aK (p:=⟨gb565,4,none⟩) (Kd.aK (p:=⟨gb565,3,none⟩) (Kd.aK (p:=⟨gb565,2,none⟩) (Kd.aK (p:=⟨gb565,1,none⟩) (Kd.aK (p:=⟨gb565,0,none⟩) (Kd.gz x0_ x1_ (by decide)) (fun _ hk=>hk.2) (.int .i64 1)) (fun _ hk=>hk.2) (.int .i64 1)) (fun _ hk=>hk.2) (.int .i64 0)) (fun _ hk=>hk.2) (.int .i64 0)) (fun _ hk=>hk.2) (.int .i64 0)) (fun _ hk=>hk.2) (.int .i64 0)) (fun _ hk=>hk.2) (.int .i64 0)) (fun _ h_=>h_.1))):p:=h x0_ x1_
theorem gG {p a:Prop} (x0_:a) (h:a → p:=by intro x0_;(with_reducible repeat (first | apply Kd.N_alloc | apply Kd.N_drewN | apply Kd.N_drew));exact x0_):p:=h x0_
theorem nT {p a b:Prop} (x0_:a) (x1_:b) (h:a → b → p:=by intro x0_ x1_;(with_reducible repeat (first | apply Kd.R_alloc | apply Kd.dE | apply Kd.dm));exact Kd.aU (Kd.aK (p:=⟨gb774,1,none⟩) (Kd.aK (p:=⟨gb774,0,none⟩) (Kd.gz x0_ x1_ (by decide)) (fun _ hk=>hk.2) (.int .i64 t770)) (fun _ hk=>hk.2) (.slice Ao26 t771.length co26)) (fun _ hk=>trivial)):p:=h x0_ x1_
theorem l7 {p a b:Prop} (x0_:a) (x1_:b) (h:a → b → p:=by intro x0_ x1_;(with_reducible repeat (first | refine ak ?_ _ | refine aj ?_ | refine ai ?_ _));refine fD ?_ x0_ _;(with_reducible repeat (first | refine ak ?_ _ | refine aj ?_ | refine ai ?_ _));exact x1_):p:=h x0_ x1_
theorem jC {p a:Prop} (x0_:a) (h:a → p:=by intro x0_;exact (by (with_reducible repeat (first | apply Kd.R_alloc | apply Kd.dE | apply Kd.dm));exact Kd.aU x0_ (fun _ hk=>hk.2))):p:=h x0_
theorem uG {p a:Prop} (x0_:a) (h:a → p:=by intro x0_;(with_reducible repeat (first | refine ak ?_ _ | refine aj ?_ | refine ai ?_ _));refine aI (cs:=#[.string ((bu l0 x10_1).f0),.string (⟨#[]⟩ : ByteArray)]) ?_ 1 _ rfl;(with_reducible repeat (first | refine ak ?_ _ | refine aj ?_ | refine ai ?_ _));refine aI (cs:=#[.string (⟨#[]⟩ : ByteArray),.string (⟨#[]⟩ : ByteArray)]) ?_ 0 _ rfl;(with_reducible repeat (first | refine ak ?_ _ | refine aj ?_ | refine ai ?_ _));exact x0_):p:=h x0_
theorem wu {p a b:Prop} (x0_:a) (x1_:b) (h:a → b → p:=by intro x0_ x1_;(with_reducible repeat (first | apply Kd.R_alloc | apply Kd.dE | apply Kd.dm));exact (Kd.aU (Kd.aK (p:=⟨gb645,6,none⟩) (Kd.aK (p:=⟨gb645,5,none⟩) (Kd.aK (p:=⟨gb645,4,none⟩) (Kd.aK (p:=⟨gb645,3,none⟩) (Kd.aK (p:=⟨gb645,2,none⟩) (Kd.aK (p:=⟨gb645,1,none⟩) (Kd.aK (p:=⟨gb645,0,none⟩) (Kd.gz x0_ x1_ (by decide)) (fun _ hk=>hk.2) (.int .i64 t648)) (fun _ hk=>hk.2) (.int .i64 t649)) (fun _ hk=>hk.2) (.int .i64 t650)) (fun _ hk=>hk.2) (.int .i64 t651)) (fun _ hk=>hk.2) (.int .i64 t652)) (fun _ hk=>hk.2) (.int .i64 t653)) (fun _ hk=>hk.2) (.int .i64 t654)) (fun _ h_=>h_.1))):p:=h x0_ x1_
theorem oD {p a:Prop} (x0_:a) (h:a → p:=by intro x0_;(with_reducible repeat (first | apply Kd.R_alloc | apply Kd.dE | apply Kd.dm));exact Kd.aU x0_ (fun _ hk=>⟨hk.1.2,hk.2⟩)):p:=h x0_
theorem jU {p a:Prop} (x0_:a) (h:a → p:=by intro x0_;repeat (first | exact x0_ | (with_reducible refine Kd.C_alloc ?_ _) | (with_reducible refine Kd.iw ?_ _) | (with_reducible refine Kd.C_drew ?_))):p:=h x0_
theorem dw {p:Prop} (h:p:=by rw [hg];exact (aJ bB)):p:=h
theorem nD {p:Prop} (h:p:=by exact (dK (w:=w) (g:=g) (row:=none) (by repeat (first | (with_reducible first | exact HK.out | apply aA.yg | apply Bo | apply keep_drew | apply keep_alloc) | exact HK.out)))):p:=h
theorem kZ {p:Prop} (h:p:=by first | exact Kd.vU _ _ _ _ _ | exact Kd.N_nil _ _ _ _ _ | exact Kd.V_nil _ _ _ _ _ | exact Kd.Q_nil _ _ _ _ _ | exact Kd.S_nil _ _ _ _ _):p:=h
theorem uI {p:Prop} (h:p:=by (try simp only [List.map_toArray,List.map_cons,List.map_nil]);first | done | (rw [show ((l0.take (a2:Int).toNat).drop (a1:Int).toNat).length = (a2.toNat - a1.toNat) from (by rw [List.length_drop,List.length_take];have h_:(a2:Int) ≤ (l0.length:Int):=pI;omega)] <;> rfl) | rfl | (simp only [List.length_drop,List.length_take];rfl)):p:=h
theorem sJ {p a b:Prop} (x0_:a) (x1_:b) (h:a → b → p:=by intro x0_ x1_;first | (rw [add_block];exact (fun hs_=>((((Kd.jH x0_ (Kd.lF x1_) (by decide))).1 _ rfl).2) hs_)) | (show ¬ _;simp only [add_block];exact (fun hs_=>((((Kd.jH x0_ (Kd.lF x1_) (by decide))).1 _ rfl).2) hs_)) | exact (fun hs_=>((((Kd.jH x0_ (Kd.lF x1_) (by decide))).1 _ rfl).2) hs_)):p:=h x0_ x1_
theorem xe {p a:Prop} (x0_:a) (h:a → p:=by intro x0_;(with_reducible repeat (first | refine ak ?_ _ | refine aj ?_ | refine ai ?_ _));refine aI (cs:=#[.int .i64 0,.slice none 0 0]) ?_ 1 _ rfl;(with_reducible repeat (first | refine ak ?_ _ | refine aj ?_ | refine ai ?_ _));refine aI (cs:=#[.int .i64 0,.slice none 0 0]) ?_ 0 _ rfl;(with_reducible repeat (first | refine ak ?_ _ | refine aj ?_ | refine ai ?_ _));exact x0_):p:=h x0_
theorem dS {p:Prop} (h:p:=by rw [if_pos rfl] at H;exact H):p:=h
theorem qP {p a:Prop} (x0_:a) (h:a → p:=by intro x0_;(with_reducible repeat (first | refine ak ?_ _ | refine aj ?_ | refine ai ?_ _));refine aI (cs:=#[.int .i64 0]) ?_ 0 _ rfl;(with_reducible repeat (first | refine ak ?_ _ | refine aj ?_ | refine ai ?_ _));exact x0_):p:=h x0_
theorem mD {p:Prop} (h:p:=by repeat (first | (with_reducible first | exact HB.out | apply ku | apply lD | apply iP) | exact HB.out)):p:=h
theorem kU {p:Prop} (h:p:=by simp only [oh,Act.put,List.setIfInBounds_toArray,List.set_cons_zero,List.set_cons_succ]):p:=h
theorem uH {p a b:Prop} (x0_:a) (x1_:b) (h:a → b → p:=by intro x0_ x1_;(with_reducible repeat (first | apply Kd.R_alloc | apply Kd.dE | apply Kd.dm));exact Kd.aU (Kd.aK (p:=⟨gb774,1,none⟩) (Kd.aK (p:=⟨gb774,0,none⟩) (Kd.gz x0_ x1_ (by decide)) (fun _ hk=>hk.2) (.int .i64 t770)) (fun _ hk=>hk.2) (.slice Ao26 t771.length co26)) (fun _ hk=>hk.1.2)):p:=h x0_ x1_
theorem og {p a:Prop} (x0_:a) (h:a → p:=by intro x0_;repeat (first | exact (Kd.nP x0_).2.2 | (with_reducible refine Kd.C_alloc ?_ _) | (with_reducible refine Kd.iw ?_ _) | (with_reducible refine Kd.C_drew ?_))):p:=h x0_
theorem qG {p a b c:Prop} (x0_:a) (x1_:b) (x2_:c) (h:a → b → c → p:=by intro x0_ x1_ x2_;repeat (first | (with_reducible first | exact HK.out | apply Kept.alloc | apply Kept.drewN | apply Kept.drew | refine Kept.setCell ?_ (.inl x0_) _ | refine Kept.setCell ?_ (.inr x1_) _ | refine Kept.setCell ?_ (.inr x2_) _) | exact HK.out)):p:=h x0_ x1_ x2_
theorem oI {p a:Prop} (x0_:a) (h:a → p:=by intro x0_;(with_reducible repeat (first | apply Kd.R_alloc | apply Kd.dE | apply Kd.dm));exact Kd.aU x0_ (fun _ hk=>⟨hk.2,hk.1.2⟩)):p:=h x0_
theorem mZ {p a:Prop} (x0_:a) (h:a → p:=by intro x0_;(with_reducible repeat (first | apply Kd.R_alloc | apply Kd.dE | apply Kd.dm));exact Kd.aU x0_ (fun _ hk=>hk.1)):p:=h x0_
theorem rC {p a b:Prop} (x0_:a) (x1_:b) (h:a → b → p:=by intro x0_ x1_;rw [hw];exact (by repeat (first | (with_reducible first | exact HK.out | apply Kept.alloc | apply Kept.drewN | apply Kept.drew | refine Kept.setCell ?_ (.inl x0_) _ | refine Kept.setCell ?_ (.inr x1_) _) | exact HK.out))):p:=h x0_ x1_
theorem gW {p a:Prop} (x0_:a) (h:a → p:=by intro x0_;have:=x0_;first | omega | exact Nat.le_refl _):p:=h x0_
theorem oU {p a:Prop} (x0_:a) (h:a → p:=by intro x0_;(with_reducible repeat (first | apply Kd.R_alloc | apply Kd.dE | apply Kd.dm));exact Kd.aU x0_ (fun _ hk=>⟨trivial,hk⟩)):p:=h x0_
theorem uy {p a b:Prop} (x0_:a) (x1_:b) (h:a → b → p:=by intro x0_ x1_;(with_reducible repeat (first | apply Kd.R_alloc | apply Kd.dE | apply Kd.dm));exact (Kd.aU (Kd.aK (p:=⟨gb736,0,none⟩) (Kd.gz x0_ x1_ (by decide)) (fun _ hk=>hk.2) (.int .i64 (rd l1 x17_1))) (fun _ h_=>h_.1))):p:=h x0_ x1_
theorem qm {p a:Prop} (x0_:a) (h:a → p:=by intro x0_;exact (by (with_reducible repeat (first | apply Kd.R_alloc | apply Kd.dE | apply Kd.dm));exact Kd.aU x0_ (fun _ hk=>⟨hk.1.2,hk.2⟩))):p:=h x0_
theorem wM {p a b:Prop} (x0_:a) (x1_:b) (h:a → b → p:=by intro x0_ x1_;first | exact HK.out.1 | exact (show Kept w _ (fun k_=>P6_ k_) from by repeat (first | (with_reducible first | exact HK.out | apply Kept.alloc | apply Kept.drewN | apply Kept.drew | refine Kept.setCell ?_ (.inl x0_) _ | refine Kept.setCell ?_ (.inr x1_) _) | exact HK.out)).1):p:=h x0_ x1_
theorem rG {p:Prop} (h:p:=by have h_:=of_decide_eq_true (show decide ((wrap64 (x6_1 + x7_7)) ≤ (l0.length:Int)) = true by assumption);rw [List.length_drop,List.length_take];omega):p:=h
theorem rU {p a:Prop} (x0_:a) (h:a → p:=by intro x0_;repeat (first | (with_reducible first | exact HK.out | apply Kept.alloc | apply Kept.drewN | apply Kept.drew | refine Kept.setCell ?_ (.inl x0_) _) | exact HK.out)):p:=h x0_
theorem jM {p a b:Prop} (x0_:a) (x1_:b) (h:a → b → p:=by intro x0_ x1_;have:=x0_;have:=x1_;first | omega | exact Nat.le_refl _):p:=h x0_ x1_
theorem su {p a:Prop} (x0_:a) (h:a → p:=by intro x0_;(with_reducible repeat (first | apply Kd.R_alloc | apply Kd.dE | apply Kd.dm));exact Kd.aU x0_ (fun _ hk=>⟨hk.2,hk.1⟩)):p:=h x0_
theorem wR {p:Prop} (h:p:=by rw [hg];exact Nat.ne_of_lt (fH (g:=gb638) (o:=.cells #[.int .i64 0,.int .i64 0,.int .i64 0,.int .i64 0,.int .i64 0,.int .i64 0,.int .i64 0] 30 (0,0)) (bL BK638))):p:=h
theorem uU {p:Prop} (h:p:=by rw [hg];exact Nat.ne_of_gt (fH (g:=gb638) (o:=.cells #[.int .i64 0,.int .i64 0,.int .i64 0,.int .i64 0,.int .i64 0,.int .i64 0,.int .i64 0] 30 (0,0)) (bL BK638))):p:=h
theorem tV {p:Prop} (h:p:=by have:(0:Int) < ((strOfNums ((l0.take ((wrap64 (x6_1 + x7_7)):Int).toNat).drop (x6_1:Int).toNat)).size:Int):=pI;omega):p:=h
theorem xq {p:Prop} (h:p:=by first | rfl | (simp [jq,jB] <;> rfl) | (simp only [← hji26];first | rfl | (simp [jq,jB] <;> rfl)) | (simp [*,jq,jB] <;> rfl)):p:=h
theorem FN {p:Prop} (h:p:=by rw [List.length_drop,List.length_take];have h_:(a2:Int) ≤ (l0.length:Int):=pI;omega):p:=h
theorem jY {p:Prop} (h:p:=by first | omega | exact Nat.le_refl _):p:=h
theorem wB {p a:Prop} (x0_:a) (h:a → p:=by intro x0_;repeat (first | (with_reducible first | exact HB.out | apply ku | apply lD | apply iP | refine lV ?_ x0_) | exact HB.out)):p:=h x0_
theorem vk {p:Prop} (h:p:=by have h_:=of_decide_eq_true (show decide (t624 ≤ (l0.length:Int)) = true by assumption);rw [List.length_drop,List.length_take];omega):p:=h
theorem wL {p:Prop} (h:p:=by have h_:=of_decide_eq_true (show decide (a2 ≤ (l0.length:Int)) = true by assumption);rw [List.length_drop,List.length_take];omega):p:=h
theorem ui {p:Prop} (h:p:=by first | rfl | (simp;done) | (simp only [← hji12] <;> (first | rfl | simp)) | (simp [*];done)):p:=h
theorem vF {p a:Prop} (x0_:a) (h:a → p:=by intro x0_;(try simp only [hl3_1]);(with_reducible repeat (first | apply Kd.R_alloc | apply Kd.dE | apply Kd.dm));exact x0_):p:=h x0_
theorem kY {p:Prop} (h:p:=by rw [← hq_];exact (bR HO_3)):p:=h
theorem lT {p a b c:Prop} (x0_:a) (x1_:b) (x2_:c) (h:a → b → c → p:=by intro x0_ x1_ x2_;have:=x0_;have:=x1_;have:=x2_;omega):p:=h x0_ x1_ x2_
theorem kP {p a b:Prop} (x0_:a) (x1_:b) (h:a → b → p:=by intro x0_ x1_;have:=x0_;have:=x1_;omega):p:=h x0_ x1_
theorem oq {p a:Prop} (x0_:a) (h:a → p:=by intro x0_;rw [hw];exact lV (HB.out) x0_):p:=h x0_
theorem qp {p:Prop} (h:p:=by rw [hg];exact (aJ (bG GE638))):p:=h
theorem vT {p:Prop} (h:p:=by first | (rw [hji12] at H;exact H) | (simp only [hji12] at H ⊢;exact H)):p:=h
theorem o7 {p:Prop} (h:p:=by rw [← hq_];exact (bL BK427)):p:=h
theorem oP {p:Prop} (h:p:=by rw [← hq_];exact (bG GE427)):p:=h
theorem uf {p:Prop} (h:p:=by rw [hg];exact (aJ (dB GE730 GE734))):p:=h
theorem rF {p:Prop} (h:p:=by rw [hw];exact (dB GE486 GE496)):p:=h
end Go.Proofs.YtecpanfndodjgaaGreatDoor.PNested
