/- Part of the proof;words that it uses. -/
import Derived.Test.YtecpanfndodjgaaGreatDoorWWords
import Derived.Test.YtecpanfndodjgaaGreatDoorWLast
import Derived.Test.YtecpanfndodjgaaGreatDoorWQPut
import Derived.Test.YtecpanfndodjgaaGreatDoorWApart
import Derived.Test.YtecpanfndodjgaaGreatDoorWZeros
import Derived.Test.YtecpanfndodjgaaGreatDoorWFoot
import Derived.Test.YtecpanfndodjgaaGreatDoorWKept
import Derived.Test.YtecpanfndodjgaaGreatDoorWNEv
namespace Go.Proofs.YtecpanfndodjgaaGreatDoorW.PrintMore
open Go.RowKit Go.Proofs.YtecpanfndodjgaaGreatDoorW.PrintWords
namespace Kd
open Go.Proofs.YtecpanfndodjgaaGreatDoorW.PrintWords.Kd
section
variable {α:Type} {d:Kd α} {e base g N:Nat} {ok:Nat → Prop} {W w1:World} {u v:Value} {xs:List α}
theorem qQ (hu:d.R e W base (fun k=>ok k ∧ k ≠ g) u xs) (hk:aA W w1 g none):d.R e w1 base (fun k=>ok k ∧ k < W.heap.size) u xs:=
  aU (fP (lh hu) hk (fun _ h=>h.1.2)) (fun _ h=>⟨h.1.1,h.2.2.1⟩)
theorem rD (h:d.R e w1 base (fun k=>ok k ∧ k < N) u xs) (hbase:∀ k,v.ownBlock = some k → N ≤ k):d.R e w1 base (fun k=>(ok k ∧ some k ≠ v.ownBlock) ∧ k < N) u xs:=
  aU h (fun k hk=>⟨⟨hk.1,fun e=>Nat.lt_irrefl _ (Nat.lt_of_lt_of_le hk.2 (hbase k e.symm))⟩,hk.2⟩)
end
end Kd
theorem jJ (k k':IntKind) (x y:Int):Builtin.max2 (.int k x) (.int k' y) = pure (.int k (if x < y then y else x)):=by simp only [Builtin.max2,gt_iff_lt]
theorem jL (ats:Array TypeId) (ty:TypeId) (a b:Value):Builtin.max_ ats ty #[a,b] = (Builtin.max2 a b >>= fun s=>pure s):=by simp only [Builtin.max_,List.foldlM_cons,List.foldlM_nil]
end Go.Proofs.YtecpanfndodjgaaGreatDoorW.PrintMore
namespace Go.Proofs.YtecpanfndodjgaaGreatDoorW.PrintWords
open Go.RowKit
section
variable {P:Program} {ops:Array Oper} {rest:List Oper} {o:Oper} {a:Act} {Q:Exit → Act → World → Prop} {W:World}
theorem gq {b:Builtin} {xs:Array Operand} {ts:Array TypeId} (_ho:o.op = .call { callee:=.builtin b,args:=xs,argTypes:=ts }) (h:wpList P ops Q (o :: rest) a W):wpList P ops Q (o :: rest) a W:=h
end
def mx (a b:Int):Int:=if a < b then b else a
theorem iq (w:World) (n:Nat):w.drewN n = w.drewN n:=rfl
namespace Kd
section
variable {α:Type} {d:Kd α} {e base b b' g N:Nat} {ok ok1:Nat → Prop} {W W2 w1:World} {u v:Value} {xs ys:List α} {S:Nat → Prop}
theorem Fa (hE:d.E = []) (h:d.R e W base ok1 v xs) (hok:∀ k,v.ownBlock = some k → ok k):d.R e W base ok v xs:=aU (rW hE h) (fun k hk=>hok k hk.symm)
theorem vK (h:d.R e W base ok v xs) (hk:Kept W W2 S) (hne:∀ k,ok k → ¬ S k):d.R e W2 base (fun k=>ok k ∧ (¬ S k ∧ k < W.heap.size)) v xs:=
  DW (aU (lh h) (fun k hk=>⟨hk.1,hne k hk.1,hk.2.2.1⟩)) hk (fun _ hk=>hk.2.1)
end
end Kd
end Go.Proofs.YtecpanfndodjgaaGreatDoorW.PrintWords
namespace Go.Proofs.YtecpanfndodjgaaGreatDoorW.PrintWords
open Go.RowKit
namespace Kd
def V {α:Type} (d:Kd α) (_e:Nat) (W:World) (_base:Nat) (ok:Nat → Prop) (v:Value) (xs:List α):Prop:=∃ A c,v = .slice A xs.length c ∧ xs.length ≤ c ∧ F d W ok A xs.length xs
section
variable {α β:Type} {d:Kd α} {e base base' n m c g N' lo hi:Nat} {ok ok' S:Nat → Prop} {w W w1:World} {A:Option Addr} {ad:Addr} {u v v1:Value} {xs:List α}
theorem qI {l:List α} (hl:l.length ≤ c) (hf:F d W ok A l.length l):FK (Kd.slice e d) W ok l [.slice A l.length c]:=fun W' hW=>⟨A,c,rfl,hl,hf W' hW⟩
theorem wG {M:Nat → Prop} (h:d.R e w1 W.heap.size ok v xs) (hle:w.heap.size ≤ W.heap.size) (hM:∀ k,w.heap.size ≤ k → M k):d.R e w1 W.heap.size (fun k=>M k ∧ ok k) v xs:=aU (lh h) (fun k hk=>⟨hM k (Nat.le_trans hle hk.2.1),hk.1⟩)
end
end Kd
end Go.Proofs.YtecpanfndodjgaaGreatDoorW.PrintWords
