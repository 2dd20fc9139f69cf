-- Written by this session's program wip/myprint/myprint.py (over the kit's print.py); not print.sh's own print.
import Derived.Test.YtmcnldekpjjgcaaProg
import Derived.Below
import Derived.Deep.Draws
import Derived.Deep.AppendLies
import Derived.Maps.AppendAt
import Derived.OwnWalk
import Derived.Laws.BytesArg
import Derived.Laws.MakeOwn
import Derived.Laws.OwnMore
import Derived.Deep.OwnRows
import Derived.Tactics
import Derived.Lib.ConvBytes
import Derived.Laws.Slices
import Derived.WalkKit
import Derived.KernelRfl
import Derived.RowKit3
import Derived.Deep.LoopGhost
import Derived.Deep.QuietTactic
import Derived.BigQuiet
import Derived.WideLaws
import Derived.Deep.DeepCutAuto
import Derived.Deep.CutBlock
import Derived.Deep.RegionHeld3
import Derived.Laws.Rows
import Derived.Lib.AppendStr
import Derived.ArgAppend
import Derived.Laws.IdiomCopy
import Derived.OrdersHeld
import Derived.Laws.BitsLemmas
import Derived.RowKit
import Derived.WalkSpells
import Derived.Test.YtmcnldekpjjgcaaWWords
import Derived.Test.YtmcnldekpjjgcaaWLast
import Derived.Test.YtmcnldekpjjgcaaWTab
import Derived.Test.YtmcnldekpjjgcaaWFour
import Derived.Test.YtmcnldekpjjgcaaWQPut
import Derived.Test.YtmcnldekpjjgcaaWApart
import Derived.Test.YtmcnldekpjjgcaaWArr
import Derived.Test.YtmcnldekpjjgcaaWZeros
import Derived.Test.YtmcnldekpjjgcaaWFoot
import Derived.Test.YtmcnldekpjjgcaaWKept
import Derived.Test.YtmcnldekpjjgcaaWShare
import Derived.Test.YtmcnldekpjjgcaaWN
import Derived.Test.YtmcnldekpjjgcaaWFootNe
import Derived.Test.YtmcnldekpjjgcaaWAt
import Derived.Test.YtmcnldekpjjgcaaWEqStruct
import Derived.Test.YtmcnldekpjjgcaaWRepsOne
import Derived.Test.YtmcnldekpjjgcaaWInv
import Derived.Test.YtmcnldekpjjgcaaWInvWords
import Derived.Test.YtmcnldekpjjgcaaWGuard
import Derived.Test.YtmcnldekpjjgcaaWNEv
import Derived.Test.YtmcnldekpjjgcaaWMore
import Derived.Test.YtmcnldekpjjgcaaWConv
namespace Go.Proofs.Ytmcnldekpjjgcaa.PCharsetOf
open Go.RowKit Go.Proofs.YtmcnldekpjjgcaaW.PrintWords Go.Proofs.YtmcnldekpjjgcaaW.PrintLast Go.Proofs.YtmcnldekpjjgcaaW.PrintMore
attribute [local go_sem] max2_int min2_int max_two min_two max_three min_three max_four min_four   -- for this text's walks alone
set_option linter.unusedVariables false
set_option linter.unusedSimpArgs false



def errW : Option Int → Value
  | none => .nilIface
  | some c => .iface 0 (.int .i64 c)
theorem errW_none : errW none = .nilIface := rfl
theorem errW_some (c : Int) : errW (some c) = .iface 0 (.int .i64 c) := rfl

theorem info5 : (Try.prog.info? 5).map (fun i => (i.zero, i.size, i.bytes)) = some (some (.int .u8 0), 1, 1) := by kernel_rfl
theorem info9 : (Try.prog.info? 9).map (fun i => (i.zero, i.size, i.bytes)) = some (some (.string ⟨#[]⟩), 1, 16) := by kernel_rfl
-- the values' own types

end Go.Proofs.Ytmcnldekpjjgcaa.PCharsetOf
