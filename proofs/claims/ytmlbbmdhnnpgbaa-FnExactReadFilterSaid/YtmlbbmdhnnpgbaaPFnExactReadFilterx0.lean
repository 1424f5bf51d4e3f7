-- Written for this claim by a program of this session: a scratch copy of the kit's print with patches of this session.
import Derived.Test.YtmlbbmdhnnpgbaaProg
import Derived.Below
import Derived.Deep.Draws
import Derived.Deep.AppendLies
import Derived.Maps.AppendAt
import Derived.OwnWalk
import Derived.Laws.BytesArg
import Derived.Laws.MakeOwn
import Derived.Laws.OwnMore
import Derived.Deep.OwnRows
import Derived.Tactics
import Derived.Lib.ConvBytes
import Derived.Laws.Slices
import Derived.WalkKit
import Derived.KernelRfl
import Derived.RowKit3
import Derived.Deep.LoopGhost
import Derived.Deep.QuietTactic
import Derived.BigQuiet
import Derived.WideLaws
import Derived.Deep.DeepCutAuto
import Derived.Deep.CutBlock
import Derived.Deep.RegionHeld3
import Derived.Laws.Rows
import Derived.Lib.AppendStr
import Derived.ArgAppend
import Derived.Laws.IdiomCopy
import Derived.OrdersHeld
import Derived.Laws.BitsLemmas
import Derived.RowKit
import Derived.Test.YtmlbbmdhnnpgbaaHw
import Derived.Test.YtmlbbmdhnnpgbaaWWords
import Derived.Test.YtmlbbmdhnnpgbaaWLast
import Derived.Test.YtmlbbmdhnnpgbaaWTab
import Derived.Test.YtmlbbmdhnnpgbaaWFour
import Derived.Test.YtmlbbmdhnnpgbaaWQPut
import Derived.Test.YtmlbbmdhnnpgbaaWApart
import Derived.Test.YtmlbbmdhnnpgbaaWArr
import Derived.Test.YtmlbbmdhnnpgbaaWZeros
import Derived.Test.YtmlbbmdhnnpgbaaWFoot
import Derived.Test.YtmlbbmdhnnpgbaaWKept
import Derived.Test.YtmlbbmdhnnpgbaaWShare
import Derived.Test.YtmlbbmdhnnpgbaaWN
import Derived.Test.YtmlbbmdhnnpgbaaWFootNe
import Derived.Test.YtmlbbmdhnnpgbaaWAt
import Derived.Test.YtmlbbmdhnnpgbaaWEqStruct
import Derived.Test.YtmlbbmdhnnpgbaaWRepsOne
import Derived.Test.YtmlbbmdhnnpgbaaWInv
import Derived.Test.YtmlbbmdhnnpgbaaWInvWords
import Derived.Test.YtmlbbmdhnnpgbaaWGuard
import Derived.Test.YtmlbbmdhnnpgbaaWNEv
import Derived.Test.YtmlbbmdhnnpgbaaWMore
namespace Go.Proofs.Ytmlbbmdhnnpgbaa.PFnExactReadFilter
open Go.RowKit Go.Proofs.YtmlbbmdhnnpgbaaW.PrintWords Go.Proofs.YtmlbbmdhnnpgbaaW.PrintLast Go.Proofs.YtmlbbmdhnnpgbaaW.PrintMore
attribute [local go_sem] max2_int min2_int max_two min_two max_three min_three max_four min_four   -- for this text's walks alone
set_option linter.unusedVariables false
set_option linter.unusedSimpArgs false



def errW : Option Int → Value
  | none => .nilIface
  | some c => .iface 0 (.int .i64 c)
theorem errW_none : errW none = .nilIface := rfl
theorem errW_some (c : Int) : errW (some c) = .iface 0 (.int .i64 c) := rfl

theorem info5 : (Try.prog.info? 5).map (fun i => (i.zero, i.size, i.bytes)) = some (some (.int .u8 0), 1, 1) := by kernel_rfl
-- the values' own types

end Go.Proofs.Ytmlbbmdhnnpgbaa.PFnExactReadFilter
