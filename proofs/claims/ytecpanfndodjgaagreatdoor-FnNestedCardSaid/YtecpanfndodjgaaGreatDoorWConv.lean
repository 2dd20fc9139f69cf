/- Part of the proof;words that it uses. -/
import Derived.Test.YtecpanfndodjgaaGreatDoorWWords
import Derived.Test.YtecpanfndodjgaaGreatDoorWMore
import Derived.Test.YtecpanfndodjgaaGreatDoorWLast
import Derived.Lib.SlBytesConst
set_option linter.unusedVariables false
set_option linter.unusedSimpArgs false
namespace Go.Proofs.YtecpanfndodjgaaGreatDoorW.PrintWords
open Go.RowKit Go.Proofs.YtecpanfndodjgaaGreatDoorW.PrintLast
def Bg:Nat → Nat → List Bool
  | 0,_=>[]
  | n + 1,x=>(x % 2 == 1) :: Bg n (x / 2)
def ay (n x:Nat):Array Bool:=(Bg n x).toArray
theorem FI (W:World) (base e:Nat) (s:ByteArray) (hbase:base ≤ W.heap.size) (hs:s.size ≤ 281474976710656) :
    (Lib.bytesWorld W e s).dI base e 1 (.slice (some ⟨W.heap.size,0,none⟩) (bytesOf s).length (grownCap W s.size 0 e)) (bytesOf s).length (nums .u8 (bytesOf s)):=by
  have hge:=grownCap_ge W s.size 0 e
  have hle:grownCap W s.size 0 e ≤ maxLen:=grownCap_le_maxLen W s.size 0 e (by simp only [maxLen];omega)
  have hsz:(Lib.bytesCells W e s).size = grownCap W s.size 0 e:=by
    have h1:s.data.size = s.size:=rfl
    simp only [Lib.bytesCells,Array.size_append,Array.size_map,Array.size_replicate,h1]
    omega
  refine ⟨by rw [nums_length,Nat.mul_one],.inr ⟨W.heap.size,_,Lib.bytesCells W e s,rfl,hbase,⟨_,Lib.bytesWorld_at_new W e s,.inr (Nat.le_refl _)⟩,by rw [bytesOf_length];exact hge,hle,by rw [hsz,Nat.mul_one],?_⟩⟩
  have h2:(s.data.map fun b=>Value.int IntKind.u8 b.toNat).toList = nums .u8 (bytesOf s):=by simp [nums,bytesOf]
  have h3:(nums .u8 (bytesOf s)).length = (bytesOf s).length * 1:=by rw [nums_length,Nat.mul_one]
  rw [Lib.bytesCells,Array.toList_append,h2,← h3]
  exact List.take_left
theorem zW (W:World) (e:TypeId) (s:ByteArray):W.grownBy (Lib.bytesWorld W e s) none:=
  ⟨rfl,rfl,rfl,by rw [Lib.bytesWorld_size];omega,fun k hk _=>Lib.bytesWorld_at_old W e s k hk⟩
namespace Kd
theorem yt (W:World) (base e:Nat) (s:ByteArray) {ok:Nat → Prop} (hfresh:ok W.heap.size) (hbase:base ≤ W.heap.size) (hs:s.size ≤ 281474976710656) :
    (Kd.int .u8).R e (Lib.bytesWorld W e s) base ok (.slice (some ⟨W.heap.size,0,none⟩) s.size (grownCap W s.size 0 e)) (bytesOf s):=by
  have h:=FI W base e s hbase hs
  rw [show (Value.slice (some ⟨W.heap.size,0,none⟩) s.size (grownCap W s.size 0 e)) = .slice (some ⟨W.heap.size,0,none⟩) (bytesOf s).length (grownCap W s.size 0 e) by rw [bytesOf_length]]
  refine zL (enc:=Value.int .u8) (h1:=fun _=>rfl) h (fun k hk=>?_)
  have:W.heap.size = k:=by simpa [Value.ownBlock] using hk
  subst this
  exact hfresh
section
variable {P:Program} {ops:Array Oper} {rest:List Oper} {o:Oper} {a:Act} {Q:Exit → Act → World → Prop} {Kc:Act → World → Prop}
theorem oL {w0 W:World} (base e:Nat) (hgd:o.guard = none) {N:Tmp} (_hd:o.dst = some N) (src dst:TypeId) (x:Operand) (ho:o.op = .convert src dst x) (s:ByteArray) (hx:a.eval x = .string s)
    {u:TypeDesc} (hsrc:P.underlying src = some u) (hdst:P.underlying dst = some (.slice e)) (he:P.underlying e = some (.int .u8)) {ok:Nat → Prop} (hfresh:ok W.heap.size) (hl:s.size ≤ 281474976710656) (HB:Below base w0 W) (hbase:base ≤ W.heap.size)
    (h:∀ v1 w1,(Kd.int .u8).R e w1 base ok v1 (bytesOf s) → Below base w0 w1 → W.grownBy w1 none → (∃ b,v1.ownBlock = some b ∧ W.heap.size ≤ b) → wpList P ops Q rest (a.put o.dst v1) w1):wpList P ops Q (o :: rest) a W:=by
  refine uB hgd (w1:=Lib.bytesWorld W e s) (v:=.slice (some ⟨W.heap.size,0,none⟩) s.size (grownCap W s.size 0 e)) ?_ (h _ _ (yt W base e s hfresh hbase hl) (zY HB hbase e s) (zW W e s) ⟨W.heap.size,by simp [Value.ownBlock],Nat.le_refl _⟩)
  simp [execOp,ho,hx,Lib.run_convert_string_bytes W src dst e s hsrc hdst he]
theorem yC {w0 W:World} (base e:Nat) (hw:Region.wanted o (yielded ops a.tmps) = true) {N:Tmp} (_hd:o.dst = some N) (src dst:TypeId) (x:Operand) (ho:o.op = .convert src dst x) (s:ByteArray) (hx:a.eval x = .string s)
    {u:TypeDesc} (hsrc:P.underlying src = some u) (hdst:P.underlying dst = some (.slice e)) (he:P.underlying e = some (.int .u8)) {ok:Nat → Prop} (hfresh:ok W.heap.size) (hl:s.size ≤ 281474976710656) (HB:Below base w0 W) (hbase:base ≤ W.heap.size)
    (h:∀ v1 w1,(Kd.int .u8).R e w1 base ok v1 (bytesOf s) → Below base w0 w1 → W.grownBy w1 none → (∃ b,v1.ownBlock = some b ∧ W.heap.size ≤ b) → Kc (a.put o.dst v1) w1):if Region.wanted o (yielded ops a.tmps) = true then Oper.wp P o a W Kc Q else Kc (a.put o.dst undef) W:=by
  refine zB hw (w1:=Lib.bytesWorld W e s) (v:=.slice (some ⟨W.heap.size,0,none⟩) s.size (grownCap W s.size 0 e)) ?_ (h _ _ (yt W base e s hfresh hbase hl) (zY HB hbase e s) (zW W e s) ⟨W.heap.size,by simp [Value.ownBlock],Nat.le_refl _⟩)
  simp [execOp,ho,hx,Lib.run_convert_string_bytes W src dst e s hsrc hdst he]
end
end Kd
namespace Kd
section
variable {P:Program} {ops:Array Oper} {rest:List Oper} {o:Oper} {a:Act} {Q:Exit → Act → World → Prop} {α:Type}
theorem pX (d:Kd α) {w0 W:World} (base e t:Nat) (ht:P.underlying t = some (.slice e)) (he:P.underlying e = some (.int .u8)) (hgd:o.guard = none) {N:Tmp} (_hd:o.dst = some N) {xs:List α} {inner:List Value} {ok okp:Nat → Prop}
    (hrun:(execOp a.eval o).run P W = .ok (.value (.slice (some ⟨W.heap.size,0,none⟩) xs.length xs.length)) (W.alloc (.cells inner.toArray e)))
    (hrep:ax (d.M W base okp) d.sz xs inner) (hok:∀ k,okp k → ok k) (hfresh:ok W.heap.size) (HB:Below base w0 W) (hbase:base ≤ W.heap.size) (hm:xs.length ≤ 9223372036854775807)
    (h:∀ v1 wa w1,(convert t t v1).run P wa = .ok v1 w1 → d.R e w1 base ok v1 xs → Below base w0 w1 → wpList P ops Q rest (a.put o.dst v1) wa):wpList P ops Q (o :: rest) a W:=by
  have hlen:inner.length = xs.length * d.sz:=hrep.1
  refine uB hgd hrun (h _ _ (W.alloc (.cells inner.toArray e (inner.toArray.size,inner.toArray.size + 1))) (Lib.run_convert_bytes_const W t e inner.toArray xs.length xs.length ht he) ⟨fun k hk=>?_,inner,⟨hlen,.inr ⟨W.heap.size,xs.length,inner.toArray,rfl,hbase,⟨(inner.toArray.size,inner.toArray.size + 1),by show (W.heap.push (.cells inner.toArray e (inner.toArray.size,inner.toArray.size + 1)))[W.heap.size]? = _;simp,.inr (Nat.le_refl _)⟩,Nat.le_refl _,by simpa [maxLen] using hm,by simpa using hlen,?_⟩⟩,?_⟩ (HB.alloc hbase _))
  · have:W.heap.size = k:=by simpa [Value.ownBlock] using hk
    subst this
    exact hfresh
  · rw [← hlen]
    simp
  · refine hrep.iV (fun p c hp=>d.M_mono (fun k hk=>⟨hok k hk.1,fun he=>?_⟩) (uS (d.M_bound hp) (ku (Below.refl _ _) _)))
    have h3:k = W.heap.size:=by simpa [Value.ownBlock] using he
    have:=hk.2.2.1
    omega
end
end Kd
end Go.Proofs.YtecpanfndodjgaaGreatDoorW.PrintWords
