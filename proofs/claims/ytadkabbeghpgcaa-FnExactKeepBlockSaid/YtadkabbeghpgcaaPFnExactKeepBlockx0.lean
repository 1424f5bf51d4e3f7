-- Written for this claim by a program of this session: a scratch copy of the kit's print with patches of this session.
import Derived.Test.YtadkabbeghpgcaaProg
import Derived.Lib.Bytealg
import Derived.Lib.Strings
import Derived.Lib.Walk
import Derived.Below
import Derived.Deep.Draws
import Derived.Deep.AppendLies
import Derived.Maps.AppendAt
import Derived.OwnWalk
import Derived.Laws.BytesArg
import Derived.Laws.MakeOwn
import Derived.Laws.OwnMore
import Derived.Deep.OwnRows
import Derived.Tactics
import Derived.Lib.ConvBytes
import Derived.Laws.Slices
import Derived.WalkKit
import Derived.KernelRfl
import Derived.RowKit3
import Derived.Deep.LoopGhost
import Derived.Deep.QuietTactic
import Derived.BigQuiet
import Derived.WideLaws
import Derived.Deep.DeepCutAuto
import Derived.Deep.CutBlock
import Derived.Deep.RegionHeld3
import Derived.Laws.Rows
import Derived.Lib.AppendStr
import Derived.ArgAppend
import Derived.Laws.IdiomCopy
import Derived.OrdersHeld
import Derived.Laws.BitsLemmas
import Derived.RowKit
import Derived.Test.YtadkabbeghpgcaaHw
import Derived.Test.YtadkabbeghpgcaaHx
import Derived.RangeFuncBox
import Derived.RangeFuncLeaves
import Derived.Shelf.Abstract
import Derived.OwnWalkIn
import Derived.TacticsInMore
import Derived.LoopNIn
import Derived.LoopIn
import Derived.Test.YtadkabbeghpgcaaShelf
import Derived.Test.YtadkabbeghpgcaaWWords
import Derived.Test.YtadkabbeghpgcaaWLast
import Derived.Test.YtadkabbeghpgcaaWTab
import Derived.Test.YtadkabbeghpgcaaWFour
import Derived.Test.YtadkabbeghpgcaaWQPut
import Derived.Test.YtadkabbeghpgcaaWApart
import Derived.Test.YtadkabbeghpgcaaWArr
import Derived.Test.YtadkabbeghpgcaaWZeros
import Derived.Test.YtadkabbeghpgcaaWFoot
import Derived.Test.YtadkabbeghpgcaaWKept
import Derived.Test.YtadkabbeghpgcaaWShare
import Derived.Test.YtadkabbeghpgcaaWN
import Derived.Test.YtadkabbeghpgcaaWFootNe
import Derived.Test.YtadkabbeghpgcaaWAt
import Derived.Test.YtadkabbeghpgcaaWEqStruct
import Derived.Test.YtadkabbeghpgcaaWRepsOne
import Derived.Test.YtadkabbeghpgcaaWInv
import Derived.Test.YtadkabbeghpgcaaWInvWords
import Derived.Test.YtadkabbeghpgcaaWGuard
import Derived.Test.YtadkabbeghpgcaaWNEv
import Derived.Test.YtadkabbeghpgcaaWMore
namespace Go.Proofs.Ytadkabbeghpgcaa.PFnExactKeepBlock
open Go.RowKit Go.Proofs.YtadkabbeghpgcaaW.PrintWords Go.Proofs.YtadkabbeghpgcaaW.PrintLast Go.Proofs.YtadkabbeghpgcaaW.PrintMore
attribute [local go_sem] max2_int min2_int max_two min_two max_three min_three max_four min_four hw_string_geq hw_string_gtr hw_string_leq   -- for this text's walks alone
set_option linter.unusedVariables false
set_option linter.unusedSimpArgs false



def errW : Option Int → Value
  | none => .nilIface
  | some c => .iface 0 (.int .i64 c)
theorem errW_none : errW none = .nilIface := rfl
theorem errW_some (c : Int) : errW (some c) = .iface 0 (.int .i64 c) := rfl

theorem info3 : (Try.prog.info? 3).map (fun i => (i.zero, i.size, i.bytes)) = some (some (.int .i64 0), 1, 8) := by kernel_rfl
-- the values' own types

end Go.Proofs.Ytadkabbeghpgcaa.PFnExactKeepBlock
