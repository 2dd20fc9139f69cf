-- Written by this session's program wip/myprint/myprint.py (over the kit's print.py); not print.sh's own print.
import Derived.Test.YtcmndjbokgaihaaProg
import Derived.Below
import Derived.Deep.Draws
import Derived.Deep.AppendLies
import Derived.Maps.AppendAt
import Derived.OwnWalk
import Derived.Laws.BytesArg
import Derived.Laws.MakeOwn
import Derived.Laws.OwnMore
import Derived.Deep.OwnRows
import Derived.Tactics
import Derived.Lib.ConvBytes
import Derived.Laws.Slices
import Derived.WalkKit
import Derived.KernelRfl
import Derived.RowKit3
import Derived.Deep.LoopGhost
import Derived.Deep.QuietTactic
import Derived.BigQuiet
import Derived.WideLaws
import Derived.Deep.DeepCutAuto
import Derived.Deep.CutBlock
import Derived.Deep.RegionHeld3
import Derived.Laws.Rows
import Derived.Lib.AppendStr
import Derived.ArgAppend
import Derived.Laws.IdiomCopy
import Derived.OrdersHeld
import Derived.Laws.BitsLemmas
import Derived.RowKit
import Derived.WalkSpells
import Derived.Test.YtcmndjbokgaihaaWWords
import Derived.Test.YtcmndjbokgaihaaWLast
import Derived.Test.YtcmndjbokgaihaaWTab
import Derived.Test.YtcmndjbokgaihaaWFour
import Derived.Test.YtcmndjbokgaihaaWQPut
import Derived.Test.YtcmndjbokgaihaaWApart
import Derived.Test.YtcmndjbokgaihaaWArr
import Derived.Test.YtcmndjbokgaihaaWZeros
import Derived.Test.YtcmndjbokgaihaaWFoot
import Derived.Test.YtcmndjbokgaihaaWKept
import Derived.Test.YtcmndjbokgaihaaWShare
import Derived.Test.YtcmndjbokgaihaaWN
import Derived.Test.YtcmndjbokgaihaaWFootNe
import Derived.Test.YtcmndjbokgaihaaWAt
import Derived.Test.YtcmndjbokgaihaaWEqStruct
import Derived.Test.YtcmndjbokgaihaaWRepsOne
import Derived.Test.YtcmndjbokgaihaaWInv
import Derived.Test.YtcmndjbokgaihaaWInvWords
import Derived.Test.YtcmndjbokgaihaaWGuard
import Derived.Test.YtcmndjbokgaihaaWNEv
import Derived.Test.YtcmndjbokgaihaaWMore
import Derived.Test.YtcmndjbokgaihaaWConv
namespace Go.Proofs.Ytcmndjbokgaihaa.PFnMaps
open Go.RowKit Go.Proofs.YtcmndjbokgaihaaW.PrintWords Go.Proofs.YtcmndjbokgaihaaW.PrintLast Go.Proofs.YtcmndjbokgaihaaW.PrintMore
attribute [local go_sem] max2_int min2_int max_two min_two max_three min_three max_four min_four   -- for this text's walks alone
set_option linter.unusedVariables false
set_option linter.unusedSimpArgs false



def errW : Option Int → Value
  | none => .nilIface
  | some c => .iface 0 (.int .i64 c)
theorem errW_none : errW none = .nilIface := rfl
theorem errW_some (c : Int) : errW (some c) = .iface 0 (.int .i64 c) := rfl

theorem info2 : (Try.prog.info? 2).map (fun i => (i.zero, i.size, i.bytes)) = some (some (.int .i64 0), 1, 8) := by kernel_rfl
-- the values' own types
def rd_L2 (xs : List (List Int)) (i : Int) : (List Int) := xs.getD i.toNat ([] : List Int)
theorem at_L2 {w : World} {A : Option Addr} {n : Nat} {xs : List (List Int)} (h : Kd.C (Kd.slice 2 (Kd.int .i64)) w A n xs) (i : Int) (h0 : 0 ≤ i) (h1 : i < n) : ∃ ad A0 c0, A = some ad ∧ w.cell? (ad.add i.toNat) = some (.slice A0 (rd_L2 xs i).length c0) ∧ (rd_L2 xs i).length ≤ c0 ∧ (Kd.int .i64).C w A0 (rd_L2 xs i).length (rd_L2 xs i) := by
  obtain ⟨ad, c, e, _, hK, hc0⟩ := Kd.C_get h ([] : List Int) i h0 h1
  have hc : ∀ j u, c[j]? = some u → w.cell? (ad.add (i.toNat * 1 + j)) = some u := hc0
  obtain ⟨A0, c0, rfl, l0, g0⟩ := hK
  exact ⟨ad, A0, c0, e, by have hq := hc 0 _ rfl; rwa [Nat.mul_one, Nat.add_zero] at hq, l0, g0⟩

@[go_sem] theorem fld26_0 (x0 x1 : Value) (w : World) : (Instr.field 26 (.agg #[x0, x1]) 0).run Try.prog w = .ok x0 w := by kernel_rfl
@[go_sem] theorem fld26_1 (x0 x1 : Value) (w : World) : (Instr.field 26 (.agg #[x0, x1]) 1).run Try.prog w = .ok x1 w := by kernel_rfl
@[go_sem] theorem fld43_0 (x0 x1 : Value) (w : World) : (Instr.field 43 (.agg #[x0, x1]) 0).run Try.prog w = .ok x0 w := by kernel_rfl
@[go_sem] theorem fld43_1 (x0 x1 : Value) (w : World) : (Instr.field 43 (.agg #[x0, x1]) 1).run Try.prog w = .ok x1 w := by kernel_rfl
end Go.Proofs.Ytcmndjbokgaihaa.PFnMaps
