-- Written by this session's program wip/myprint/myprint.py (over the kit's print.py); not print.sh's own print.
import Derived.Test.YtjopgmjmjnfcjaaDoorProg
import Derived.Below
import Derived.Deep.Draws
import Derived.Deep.AppendLies
import Derived.Maps.AppendAt
import Derived.OwnWalk
import Derived.Laws.BytesArg
import Derived.Laws.MakeOwn
import Derived.Laws.OwnMore
import Derived.Deep.OwnRows
import Derived.Tactics
import Derived.Lib.ConvBytes
import Derived.Laws.Slices
import Derived.WalkKit
import Derived.KernelRfl
import Derived.RowKit3
import Derived.Deep.LoopGhost
import Derived.Deep.QuietTactic
import Derived.BigQuiet
import Derived.WideLaws
import Derived.Deep.DeepCutAuto
import Derived.Deep.CutBlock
import Derived.Deep.RegionHeld3
import Derived.Laws.Rows
import Derived.Lib.AppendStr
import Derived.ArgAppend
import Derived.Laws.IdiomCopy
import Derived.OrdersHeld
import Derived.Laws.BitsLemmas
import Derived.RowKit
import Derived.WalkSpells
import Derived.Laws.CopyOwn
import Derived.StillTailTactics
import Derived.Lib.Builder
import Derived.Shelf.Strings.Trim
import Derived.Shelf.Small.Strs
import Derived.Test.YtjopgmjmjnfcjaaDoorWWords
import Derived.Test.YtjopgmjmjnfcjaaDoorWLast
import Derived.Test.YtjopgmjmjnfcjaaDoorWTab
import Derived.Test.YtjopgmjmjnfcjaaDoorWFour
import Derived.Test.YtjopgmjmjnfcjaaDoorWQPut
import Derived.Test.YtjopgmjmjnfcjaaDoorWApart
import Derived.Test.YtjopgmjmjnfcjaaDoorWArr
import Derived.Test.YtjopgmjmjnfcjaaDoorWZeros
import Derived.Test.YtjopgmjmjnfcjaaDoorWFoot
import Derived.Test.YtjopgmjmjnfcjaaDoorWKept
import Derived.Test.YtjopgmjmjnfcjaaDoorWShare
import Derived.Test.YtjopgmjmjnfcjaaDoorWN
import Derived.Test.YtjopgmjmjnfcjaaDoorWFootNe
import Derived.Test.YtjopgmjmjnfcjaaDoorWAt
import Derived.Test.YtjopgmjmjnfcjaaDoorWEqStruct
import Derived.Test.YtjopgmjmjnfcjaaDoorWRepsOne
import Derived.Test.YtjopgmjmjnfcjaaDoorWInv
import Derived.Test.YtjopgmjmjnfcjaaDoorWInvWords
import Derived.Test.YtjopgmjmjnfcjaaDoorWGuard
import Derived.Test.YtjopgmjmjnfcjaaDoorWNEv
import Derived.Test.YtjopgmjmjnfcjaaDoorWMore
import Derived.Test.YtjopgmjmjnfcjaaDoorWConv
namespace Go.Proofs.YtjopgmjmjnfcjaaDoor.PFnBases
open Go.RowKit Go.Proofs.YtjopgmjmjnfcjaaDoorW.PrintWords Go.Proofs.YtjopgmjmjnfcjaaDoorW.PrintLast Go.Proofs.YtjopgmjmjnfcjaaDoorW.PrintMore
attribute [local go_sem] max2_int min2_int max_two min_two max_three min_three max_four min_four   -- for this text's walks alone
set_option linter.unusedVariables false
set_option linter.unusedSimpArgs false



def errW : Option Int → Value
  | none => .nilIface
  | some c => .iface 0 (.int .i64 c)
theorem errW_none : errW none = .nilIface := rfl
theorem errW_some (c : Int) : errW (some c) = .iface 0 (.int .i64 c) := rfl

theorem info2 : (Tryd.prog.info? 2).map (fun i => (i.zero, i.size, i.bytes)) = some (some (.int .i64 0), 1, 8) := by kernel_rfl
theorem info5 : (Tryd.prog.info? 5).map (fun i => (i.zero, i.size, i.bytes)) = some (some (.int .u8 0), 1, 1) := by kernel_rfl
theorem info9 : (Tryd.prog.info? 9).map (fun i => (i.zero, i.size, i.bytes)) = some (some (.string ⟨#[]⟩), 1, 16) := by kernel_rfl
-- the values' own types
def rd_L3 (xs : List (List Int)) (i : Int) : (List Int) := xs.getD i.toNat ([] : List Int)
theorem at_L3 {w : World} {A : Option Addr} {n : Nat} {xs : List (List Int)} (h : Kd.C (Kd.slice 5 (Kd.int .u8)) w A n xs) (i : Int) (h0 : 0 ≤ i) (h1 : i < n) : ∃ ad A0 c0, A = some ad ∧ w.cell? (ad.add i.toNat) = some (.slice A0 (rd_L3 xs i).length c0) ∧ (rd_L3 xs i).length ≤ c0 ∧ (Kd.int .u8).C w A0 (rd_L3 xs i).length (rd_L3 xs i) := by
  obtain ⟨ad, c, e, _, hK, hc0⟩ := Kd.C_get h ([] : List Int) i h0 h1
  have hc : ∀ j u, c[j]? = some u → w.cell? (ad.add (i.toNat * 1 + j)) = some u := hc0
  obtain ⟨A0, c0, rfl, l0, g0⟩ := hK
  exact ⟨ad, A0, c0, e, by have hq := hc 0 _ rfl; rwa [Nat.mul_one, Nat.add_zero] at hq, l0, g0⟩

@[go_sem] theorem fld26_0 (x0 x1 : Value) (w : World) : (Instr.field 26 (.agg #[x0, x1]) 0).run Tryd.prog w = .ok x0 w := by kernel_rfl
@[go_sem] theorem fld29_0 (x0 x1 : Value) (w : World) : (Instr.field 29 (.agg #[x0, x1]) 0).run Tryd.prog w = .ok x0 w := by kernel_rfl
@[go_sem] theorem fld29_1 (x0 x1 : Value) (w : World) : (Instr.field 29 (.agg #[x0, x1]) 1).run Tryd.prog w = .ok x1 w := by kernel_rfl
end Go.Proofs.YtjopgmjmjnfcjaaDoor.PFnBases
