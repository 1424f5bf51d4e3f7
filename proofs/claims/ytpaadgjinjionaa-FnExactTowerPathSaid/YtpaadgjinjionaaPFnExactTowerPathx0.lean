-- Written for this claim by a program of this session: a scratch copy of the kit's print with patches of this session.
import Derived.Test.YtpaadgjinjionaaProg
import Derived.Below
import Derived.Deep.Draws
import Derived.Deep.AppendLies
import Derived.Maps.AppendAt
import Derived.OwnWalk
import Derived.Laws.BytesArg
import Derived.Laws.MakeOwn
import Derived.Laws.OwnMore
import Derived.Deep.OwnRows
import Derived.Tactics
import Derived.Lib.ConvBytes
import Derived.Laws.Slices
import Derived.WalkKit
import Derived.KernelRfl
import Derived.RowKit3
import Derived.Deep.LoopGhost
import Derived.Deep.QuietTactic
import Derived.BigQuiet
import Derived.WideLaws
import Derived.Deep.DeepCutAuto
import Derived.Deep.CutBlock
import Derived.Deep.RegionHeld3
import Derived.Laws.Rows
import Derived.Lib.AppendStr
import Derived.ArgAppend
import Derived.Laws.IdiomCopy
import Derived.OrdersHeld
import Derived.Laws.BitsLemmas
import Derived.RowKit
import Derived.Test.YtpaadgjinjionaaHw
import Derived.Test.YtpaadgjinjionaaWWords
import Derived.Test.YtpaadgjinjionaaWLast
import Derived.Test.YtpaadgjinjionaaWTab
import Derived.Test.YtpaadgjinjionaaWFour
import Derived.Test.YtpaadgjinjionaaWQPut
import Derived.Test.YtpaadgjinjionaaWApart
import Derived.Test.YtpaadgjinjionaaWArr
import Derived.Test.YtpaadgjinjionaaWZeros
import Derived.Test.YtpaadgjinjionaaWFoot
import Derived.Test.YtpaadgjinjionaaWKept
import Derived.Test.YtpaadgjinjionaaWShare
import Derived.Test.YtpaadgjinjionaaWN
import Derived.Test.YtpaadgjinjionaaWFootNe
import Derived.Test.YtpaadgjinjionaaWAt
import Derived.Test.YtpaadgjinjionaaWEqStruct
import Derived.Test.YtpaadgjinjionaaWRepsOne
import Derived.Test.YtpaadgjinjionaaWInv
import Derived.Test.YtpaadgjinjionaaWInvWords
import Derived.Test.YtpaadgjinjionaaWGuard
import Derived.Test.YtpaadgjinjionaaWNEv
import Derived.Test.YtpaadgjinjionaaWMore
namespace Go.Proofs.Ytpaadgjinjionaa.PFnExactTowerPath
open Go.RowKit Go.Proofs.YtpaadgjinjionaaW.PrintWords Go.Proofs.YtpaadgjinjionaaW.PrintLast Go.Proofs.YtpaadgjinjionaaW.PrintMore
attribute [local go_sem] max2_int min2_int max_two min_two max_three min_three max_four min_four hw_string_geq hw_string_gtr hw_string_leq   -- for this text's walks alone
set_option linter.unusedVariables false
set_option linter.unusedSimpArgs false



def errW : Option Int → Value
  | none => .nilIface
  | some c => .iface 0 (.int .i64 c)
theorem errW_none : errW none = .nilIface := rfl
theorem errW_some (c : Int) : errW (some c) = .iface 0 (.int .i64 c) := rfl

theorem info3 : (Try.prog.info? 3).map (fun i => (i.zero, i.size, i.bytes)) = some (some (.int .i64 0), 1, 8) := by kernel_rfl
theorem info5 : (Try.prog.info? 5).map (fun i => (i.zero, i.size, i.bytes)) = some (some (.int .u8 0), 1, 1) := by kernel_rfl
theorem info9 : (Try.prog.info? 9).map (fun i => (i.zero, i.size, i.bytes)) = some (some (.string ⟨#[]⟩), 1, 16) := by kernel_rfl
-- the values' own types

end Go.Proofs.Ytpaadgjinjionaa.PFnExactTowerPath
