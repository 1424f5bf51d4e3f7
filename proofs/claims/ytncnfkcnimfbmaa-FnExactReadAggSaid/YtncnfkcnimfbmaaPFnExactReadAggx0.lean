-- Written for this claim by a program of this session: a scratch copy of the kit's print with patches of this session.
import Derived.Test.YtncnfkcnimfbmaaProg
import Derived.Lib.Bytealg
import Derived.Lib.Strings
import Derived.Lib.Walk
import Derived.Below
import Derived.Deep.Draws
import Derived.Deep.AppendLies
import Derived.Maps.AppendAt
import Derived.OwnWalk
import Derived.Laws.BytesArg
import Derived.Laws.MakeOwn
import Derived.Laws.OwnMore
import Derived.Deep.OwnRows
import Derived.Tactics
import Derived.Lib.ConvBytes
import Derived.Laws.Slices
import Derived.WalkKit
import Derived.KernelRfl
import Derived.RowKit3
import Derived.Deep.LoopGhost
import Derived.Deep.QuietTactic
import Derived.BigQuiet
import Derived.WideLaws
import Derived.Deep.DeepCutAuto
import Derived.Deep.CutBlock
import Derived.Deep.RegionHeld3
import Derived.Laws.Rows
import Derived.Lib.AppendStr
import Derived.ArgAppend
import Derived.Laws.IdiomCopy
import Derived.OrdersHeld
import Derived.Laws.BitsLemmas
import Derived.RowKit
import Derived.Test.YtncnfkcnimfbmaaHw
import Derived.Test.YtncnfkcnimfbmaaHx
import Derived.Test.YtncnfkcnimfbmaaWWords
import Derived.Test.YtncnfkcnimfbmaaWLast
import Derived.Test.YtncnfkcnimfbmaaWTab
import Derived.Test.YtncnfkcnimfbmaaWFour
import Derived.Test.YtncnfkcnimfbmaaWQPut
import Derived.Test.YtncnfkcnimfbmaaWApart
import Derived.Test.YtncnfkcnimfbmaaWArr
import Derived.Test.YtncnfkcnimfbmaaWZeros
import Derived.Test.YtncnfkcnimfbmaaWFoot
import Derived.Test.YtncnfkcnimfbmaaWKept
import Derived.Test.YtncnfkcnimfbmaaWShare
import Derived.Test.YtncnfkcnimfbmaaWN
import Derived.Test.YtncnfkcnimfbmaaWFootNe
import Derived.Test.YtncnfkcnimfbmaaWAt
import Derived.Test.YtncnfkcnimfbmaaWEqStruct
import Derived.Test.YtncnfkcnimfbmaaWRepsOne
import Derived.Test.YtncnfkcnimfbmaaWInv
import Derived.Test.YtncnfkcnimfbmaaWInvWords
import Derived.Test.YtncnfkcnimfbmaaWGuard
import Derived.Test.YtncnfkcnimfbmaaWNEv
import Derived.Test.YtncnfkcnimfbmaaWMore
namespace Go.Proofs.Ytncnfkcnimfbmaa.PFnExactReadAgg
open Go.RowKit Go.Proofs.YtncnfkcnimfbmaaW.PrintWords Go.Proofs.YtncnfkcnimfbmaaW.PrintLast Go.Proofs.YtncnfkcnimfbmaaW.PrintMore
attribute [local go_sem] max2_int min2_int max_two min_two max_three min_three max_four min_four hw_string_geq hw_string_gtr hw_string_leq   -- for this text's walks alone
set_option linter.unusedVariables false
set_option linter.unusedSimpArgs false



def errW : Option Int → Value
  | none => .nilIface
  | some c => .iface 0 (.int .i64 c)
theorem errW_none : errW none = .nilIface := rfl
theorem errW_some (c : Int) : errW (some c) = .iface 0 (.int .i64 c) := rfl

theorem info3 : (Try.prog.info? 3).map (fun i => (i.zero, i.size, i.bytes)) = some (some (.int .i64 0), 1, 8) := by kernel_rfl
theorem info5 : (Try.prog.info? 5).map (fun i => (i.zero, i.size, i.bytes)) = some (some (.int .u8 0), 1, 1) := by kernel_rfl
-- the values' own types

end Go.Proofs.Ytncnfkcnimfbmaa.PFnExactReadAgg
