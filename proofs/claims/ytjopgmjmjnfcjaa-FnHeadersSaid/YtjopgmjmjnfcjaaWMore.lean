/- Part of the proof: what its walks use. -/
import Derived.Test.YtjopgmjmjnfcjaaWWords
import Derived.Test.YtjopgmjmjnfcjaaWLast
import Derived.Test.YtjopgmjmjnfcjaaWQPut
import Derived.Test.YtjopgmjmjnfcjaaWApart
import Derived.Test.YtjopgmjmjnfcjaaWZeros
import Derived.Test.YtjopgmjmjnfcjaaWFoot
import Derived.Test.YtjopgmjmjnfcjaaWKept
import Derived.Test.YtjopgmjmjnfcjaaWNEv
namespace Go.Proofs.YtjopgmjmjnfcjaaW.PrintMore
open Go.RowKit Go.Proofs.YtjopgmjmjnfcjaaW.PrintWords
namespace Kd
open Go.Proofs.YtjopgmjmjnfcjaaW.PrintWords.Kd
section
variable {α : Type} {d : Kd α} {e base g N : Nat} {ok : Nat → Prop} {W w1 : World} {u v : Value} {xs : List α}
theorem R_oldK (hu : d.R e W base (fun k => ok k ∧ k ≠ g) u xs) (hk : KeepBut W w1 g none) : d.R e w1 base (fun k => ok k ∧ k < W.heap.size) u xs :=
  R_mono (R_keep (R_bound hu) hk (fun _ h => h.1.2)) (fun _ h => ⟨h.1.1, h.2.2.1⟩)
theorem R_told (h : d.R e w1 base (fun k => ok k ∧ k < N) u xs) (hbase : ∀ k, v.ownBlock = some k → N ≤ k) : d.R e w1 base (fun k => (ok k ∧ some k ≠ v.ownBlock) ∧ k < N) u xs :=
  R_mono h (fun k hk => ⟨⟨hk.1, fun e => Nat.lt_irrefl _ (Nat.lt_of_lt_of_le hk.2 (hbase k e.symm))⟩, hk.2⟩)
end
end Kd
end Go.Proofs.YtjopgmjmjnfcjaaW.PrintMore
namespace Go.Proofs.YtjopgmjmjnfcjaaW.PrintWords
open Go.RowKit
section
variable {P : Program} {ops : Array Oper} {rest : List Oper} {o : Oper} {a : Act} {Q : Exit → Act → World → Prop} {W : World}
theorem gate_callee {f : FuncId} {as : Array Operand} {ts : Array TypeId} (_ho : o.op = .call { callee := .value (.func f), args := as, argTypes := ts }) (h : wpList P ops Q (o :: rest) a W) : wpList P ops Q (o :: rest) a W := h
theorem gate_builtin {b : Builtin} {xs : Array Operand} {ts : Array TypeId} (_ho : o.op = .call { callee := .builtin b, args := xs, argTypes := ts }) (h : wpList P ops Q (o :: rest) a W) : wpList P ops Q (o :: rest) a W := h
end
theorem drewN_self (w : World) (n : Nat) : w.drewN n = w.drewN n := rfl
end Go.Proofs.YtjopgmjmjnfcjaaW.PrintWords
namespace Go.Proofs.YtjopgmjmjnfcjaaW.PrintWords
open Go.RowKit
namespace Kd
def V {α : Type} (d : Kd α) (_e : Nat) (W : World) (_base : Nat) (ok : Nat → Prop) (v : Value) (xs : List α) : Prop := ∃ A c, v = .slice A xs.length c ∧ xs.length ≤ c ∧ F d W ok A xs.length xs
end Kd
end Go.Proofs.YtjopgmjmjnfcjaaW.PrintWords
