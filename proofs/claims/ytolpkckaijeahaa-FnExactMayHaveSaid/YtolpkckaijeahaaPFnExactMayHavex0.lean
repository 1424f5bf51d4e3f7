-- Written for this claim by a program of this session: a scratch copy of the kit's print with patches of this session.
import Derived.Test.YtolpkckaijeahaaProg
import Derived.Below
import Derived.Deep.Draws
import Derived.Deep.AppendLies
import Derived.Maps.AppendAt
import Derived.OwnWalk
import Derived.Laws.BytesArg
import Derived.Laws.MakeOwn
import Derived.Laws.OwnMore
import Derived.Deep.OwnRows
import Derived.Tactics
import Derived.Lib.ConvBytes
import Derived.Laws.Slices
import Derived.WalkKit
import Derived.KernelRfl
import Derived.RowKit3
import Derived.Deep.LoopGhost
import Derived.Deep.QuietTactic
import Derived.BigQuiet
import Derived.WideLaws
import Derived.Deep.DeepCutAuto
import Derived.Deep.CutBlock
import Derived.Deep.RegionHeld3
import Derived.Laws.Rows
import Derived.Lib.AppendStr
import Derived.ArgAppend
import Derived.Laws.IdiomCopy
import Derived.OrdersHeld
import Derived.Laws.BitsLemmas
import Derived.RowKit
import Derived.Test.YtolpkckaijeahaaHw
import Derived.Test.YtolpkckaijeahaaWWords
import Derived.Test.YtolpkckaijeahaaWLast
import Derived.Test.YtolpkckaijeahaaWTab
import Derived.Test.YtolpkckaijeahaaWFour
import Derived.Test.YtolpkckaijeahaaWQPut
import Derived.Test.YtolpkckaijeahaaWApart
import Derived.Test.YtolpkckaijeahaaWArr
import Derived.Test.YtolpkckaijeahaaWZeros
import Derived.Test.YtolpkckaijeahaaWFoot
import Derived.Test.YtolpkckaijeahaaWKept
import Derived.Test.YtolpkckaijeahaaWShare
import Derived.Test.YtolpkckaijeahaaWN
import Derived.Test.YtolpkckaijeahaaWFootNe
import Derived.Test.YtolpkckaijeahaaWAt
import Derived.Test.YtolpkckaijeahaaWEqStruct
import Derived.Test.YtolpkckaijeahaaWRepsOne
import Derived.Test.YtolpkckaijeahaaWInv
import Derived.Test.YtolpkckaijeahaaWInvWords
import Derived.Test.YtolpkckaijeahaaWGuard
import Derived.Test.YtolpkckaijeahaaWNEv
import Derived.Test.YtolpkckaijeahaaWMore
namespace Go.Proofs.Ytolpkckaijeahaa.PFnExactMayHave
open Go.RowKit Go.Proofs.YtolpkckaijeahaaW.PrintWords Go.Proofs.YtolpkckaijeahaaW.PrintLast Go.Proofs.YtolpkckaijeahaaW.PrintMore
attribute [local go_sem] max2_int min2_int max_two min_two max_three min_three max_four min_four hw_string_geq hw_string_gtr hw_string_leq   -- for this text's walks alone
set_option linter.unusedVariables false
set_option linter.unusedSimpArgs false



def errW : Option Int → Value
  | none => .nilIface
  | some c => .iface 0 (.int .i64 c)
theorem errW_none : errW none = .nilIface := rfl
theorem errW_some (c : Int) : errW (some c) = .iface 0 (.int .i64 c) := rfl

theorem info3 : (Try.prog.info? 3).map (fun i => (i.zero, i.size, i.bytes)) = some (some (.int .i64 0), 1, 8) := by kernel_rfl
theorem info5 : (Try.prog.info? 5).map (fun i => (i.zero, i.size, i.bytes)) = some (some (.int .u8 0), 1, 1) := by kernel_rfl
-- the values' own types

end Go.Proofs.Ytolpkckaijeahaa.PFnExactMayHave
