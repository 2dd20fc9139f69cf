/- Part of the proof;words that it uses. -/
import Derived.Test.YtecpanfndodjgaaGreatDoorWWords
import Derived.Test.YtecpanfndodjgaaGreatDoorWMore
import Derived.Test.YtecpanfndodjgaaGreatDoorWLast
import Derived.Test.YtecpanfndodjgaaGreatDoorWKept
import Derived.Test.YtecpanfndodjgaaGreatDoorWConv
import Derived.Test.YtecpanfndodjgaaGreatDoorWRepsOne
set_option linter.unusedVariables false
namespace Go.Proofs.YtecpanfndodjgaaGreatDoorW.PrintWords
open Go.RowKit Go.Proofs.YtecpanfndodjgaaGreatDoorW.PrintLast
theorem pI {a:Prop} [Decidable a] (h:decide a = true:=by first | (with_reducible assumption) | assumption):a:=of_decide_eq_true h
theorem aM {p:Prop} (h:p):ae p:=ae.mk h
theorem bB {p:Prop} (h:p:=by repeat (first | (with_reducible first | exact HB.out | apply ku | apply lD | apply iP) | exact HB.out)):p:=h
theorem bG {p a:Prop} (x:ae a) (h:a → p:=by intro x_;repeat (first | (with_reducible first | exact HB.out | apply ku | apply lD | apply iP | refine lV ?_ x_) | exact HB.out)):p:=h x.out
theorem dB {p a b:Prop} (x:ae a) (y:ae b) (h:a → b → p:=by intro x_ y_;repeat (first | (with_reducible first | exact HB.out | apply ku | apply lD | apply iP | refine lV ?_ x_ | refine lV ?_ y_) | exact HB.out)):p:=h x.out y.out
theorem bK {p:Prop} (h:p:=by repeat (first | (with_reducible first | exact HK.out | apply Kept.alloc | apply Kept.drewN | apply Kept.drew) | exact HK.out)):p:=h
theorem bR {p a:Prop} (x:ae a) (h:a → p:=by intro x_;(with_reducible repeat (first | apply Kd.R_alloc | apply Kd.dE | apply Kd.dm));exact x_):p:=h x.out
theorem bL {p a:Prop} (x:ae a) (h:a → p:=by intro x_;(with_reducible repeat (first | refine ak ?_ _ | refine aj ?_ | refine ai ?_ _));exact x_):p:=h x.out
theorem bM {p:Prop} (h:p:=by (try simp only [List.map_toArray,List.map_cons,List.map_nil]);first | done | rfl | (simp only [List.length_drop,List.length_take];rfl)):p:=h
theorem bS {p:Prop} (h:p:=by first | rfl | (simp;done) | (simp [*];done)):p:=h
theorem bE {p:Prop} (h:p:=by first | rfl | (simp [jq,jB] <;> rfl) | (simp [*,jq,jB] <;> rfl)):p:=h
theorem bH {p a b:Prop} (x:a) (y:b) (h:a → b → p:=by intro h_ e_;first | exact h_ | omega | simpa using h_):p:=h x y
abbrev bI (xs:List Int):List Value:=xs.map (Value.int .u8)
theorem bP {W:World} {b:Nat} {ok:Nat → Prop}:∀ xs:List Int,ax (Kd.M (Kd.int .u8) W b ok) 1 xs (bI xs)
  | []=>ax.none _ _
  | x :: xs=>ax.one (show Kd.M (Kd.int .u8) _ _ _ x [.int .u8 x] from rfl) (bP xs)
theorem nX {w:World} {g:Nat} {t:TypeId} {a0:Value} (h:w.heap[g]? = some (.cells #[a0] t (0,0))):w.cell? ⟨g,0,none⟩ = some a0 ∧ w.frozen? ⟨g,0,none⟩ = false:=⟨(cu h 0).trans rfl,jO h 0⟩
theorem cC2 {w:World} {g:Nat} {t:TypeId} {a0 a1:Value} (h:w.heap[g]? = some (.cells #[a0,a1] t (0,0))):w.cell? ⟨g,0,none⟩ = some a0 ∧ w.cell? ⟨g,1,none⟩ = some a1 ∧ w.frozen? ⟨g,0,none⟩ = false ∧ w.frozen? ⟨g,1,none⟩ = false:=⟨(cu h 0).trans rfl,(cu h 1).trans rfl,jO h 0,jO h 1⟩
theorem dY {w:World} {g:Nat} {t:TypeId} {a0 a1 a2 a3 a4 a5 a6:Value} (h:w.heap[g]? = some (.cells #[a0,a1,a2,a3,a4,a5,a6] t (0,0))):w.cell? ⟨g,0,none⟩ = some a0 ∧ w.cell? ⟨g,1,none⟩ = some a1 ∧ w.cell? ⟨g,2,none⟩ = some a2 ∧ w.cell? ⟨g,3,none⟩ = some a3 ∧ w.cell? ⟨g,4,none⟩ = some a4 ∧ w.cell? ⟨g,5,none⟩ = some a5 ∧ w.cell? ⟨g,6,none⟩ = some a6 ∧ w.frozen? ⟨g,0,none⟩ = false ∧ w.frozen? ⟨g,1,none⟩ = false ∧ w.frozen? ⟨g,2,none⟩ = false ∧ w.frozen? ⟨g,3,none⟩ = false ∧ w.frozen? ⟨g,4,none⟩ = false ∧ w.frozen? ⟨g,5,none⟩ = false ∧ w.frozen? ⟨g,6,none⟩ = false:=⟨(cu h 0).trans rfl,(cu h 1).trans rfl,(cu h 2).trans rfl,(cu h 3).trans rfl,(cu h 4).trans rfl,(cu h 5).trans rfl,(cu h 6).trans rfl,jO h 0,jO h 1,jO h 2,jO h 3,jO h 4,jO h 5,jO h 6⟩
theorem oB {α β:Type} {o:Option α} {f:α → Option β} {b:β} (h:o.bind f = some b):∃ a,ae (o = some a) ∧ f a = some b:=by
  obtain ⟨a,h1,h2⟩:=Option.bind_eq_some_iff.mp h
  exact ⟨a,⟨h1⟩,h2⟩
theorem aB {p q:Prop} (h:p) (n:¬p:=by intro H;simp at H):q:=absurd h n
theorem bQ {w0 w w1:World} {g:Nat} {o:Obj} (x:ae (w0.heap[g]? = some o)) (hb:Below w.heap.size w w1) (h:w0.heap[g]? = some o → w.heap[g]? = some o:=by intro x_;(with_reducible repeat (first | refine ak ?_ _ | refine aj ?_ | refine ai ?_ _));exact x_):w1.heap[g]? = some o:=fE (h x.out) hb
section
variable {P:Program} {md:Region.Mode} {ops:Array Oper} {Q:Exit → Act → World → Prop} {S:World → Prop} {ds:List Nat}
theorem aX {i:Nat} {N:Option Tmp} {oi:Oper} {v:Value} {fuel:Nat} {l:Array Bool} {a:Act} {w:World} (l':Array Bool) (hi:ops[i]? = some oi:=by rfl) (hN:oi.dst = N:=by rfl) (hc:qU md ops l l' i = true:=by exact Ej HT_.out (by kernel_rfl))
    (hQ:∀ c a w,Q (.panic c) (a.put oi.dst v) w → Q (.panic c) a w:=by exact fun _ _ _ h=>h) (hy:Yields P ops oi v a:=by exact Or.inl ⟨by rfl,by intro w';go_simp;with_reducible rfl⟩) {a':Act} (ha:a.put N v = a':=by simp only [Act.put,List.setIfInBounds_toArray,List.set_cons_zero,List.set_cons_succ,bV,dh];rfl)
    (h:ed P md ops Q S ds fuel l' a' w):ed P md ops Q S ds (fuel + 1) l a w:=qE l' hi hN hc hQ hy ha h
theorem dM {N:Option Tmp} {v:Value} {fuel:Nat} {l:Array Bool} {a a':Act} {w:World} (ha:a.put N v = a':=by simp only [Act.put,List.setIfInBounds_toArray,List.set_cons_zero,List.set_cons_succ,bV,dh];rfl) (h:ed P md ops Q S ds fuel l a' w):ed P md ops Q S ds fuel l (a.put N v) w:=jm ha h
theorem ah {rest:List Oper} {oi:Oper} {a:Act} {w:World} {f:FuncId} {fn:Func} {as:Array Operand} {ts:Array TypeId} (N:Option Tmp) (hf:P.funcs[f]? = some fn) (args:Array Value) (h:Calls P f args w fun e w'=>∃ v,e = .returned v ∧ wpList P ops Q rest (a.put N v) w')
    (hd:oi.dst = N:=by rfl) (hg:oi.guard = none:=by rfl) (hname:(fn.name == "runtime.NumGoroutine") = false:=by kernel_rfl) (hb:fn.body.isSome = true:=by rfl) (hop:oi.op = .call { callee:=.value (.func f),args:=as,argTypes:=ts }:=by rfl)
    (hargs:as.map a.eval = args:=by (try simp only [List.map_toArray,List.map_cons,List.map_nil]);first | done | rfl | (simp only [List.length_drop,List.length_take];rfl)):wpList P ops Q (oi :: rest) a w:=ou N hd hg hf hname hb args hop hargs h
theorem gC (f:FuncId) {rest:List Oper} {o:Oper} {a:Act} {W:World} {as:Array Operand} {ts:Array TypeId} (_ho:o.op = .call { callee:=.value (.func f),args:=as,argTypes:=ts }) (h:wpList P ops Q (o :: rest) a W):wpList P ops Q (o :: rest) a W:=h
end
end Go.Proofs.YtecpanfndodjgaaGreatDoorW.PrintWords
